/- The symbolic walk is sound: operations that make or change nothing; no condition. -/
import Derived.Test.YtniobbepliknmaaVa
import Derived.Lib.SliceRun
import Derived.Lib.LazyBuf
import Derived.WalkSpells
namespace Go.Proofs.Ytniobbepliknmaa.V
open Go
set_option linter.unusedVariables false
set_option linter.unusedSimpArgs false

def FitsSl : Sl → Value → Prop
  | .dead, _ => True
  | .v e x, u => u = bif e then x else undef
  | .box b _ _, u => u = .pointer (some ⟨b, 0, none⟩)
  | .ref e _ b off, u => u = bif e then .pointer (some ⟨b, off, none⟩) else undef
def Fits (φ : Fr) (a : Act) : Prop := ∀ t, FitsSl (look φ t) (a.tmps.getD t undef)

theorem eval_of {φ : Fr} {a : Act} (h : Fits φ a) (x : Operand) (hx : (val φ x).1 = true) : a.eval x = (val φ x).2 := by
  cases x with
  | tmp t =>
    have := h t
    simp only [val, Act.eval] at *
    cases hl : look φ t with
    | dead => rw [hl] at hx; simp [Sl.val] at hx
    | v e x => rw [hl] at hx this; simp only [Sl.val] at *; subst hx; simpa [FitsSl] using this
    | box b T cs => rw [hl] at this; simpa [FitsSl, Sl.val] using this
    | ref e s b off => rw [hl] at hx this; simp only [Sl.val] at *; subst hx; simpa [FitsSl] using this
  | const v => rfl
  | global g => rfl
  | func f => rfl

theorem vals_of {φ : Fr} {a : Act} (h : Fits φ a) {e : Bool} (he : e = true) : ∀ (l : List Operand), allOn φ e l → l.map a.eval = vals φ l
  | [], _ => rfl
  | x :: r, hx => by
    obtain ⟨h1, h2⟩ := hx
    simp only [List.map_cons, vals, eval_of h x (h1 he), vals_of h he r h2]

theorem slotOf_val (φ : Fr) (e : Bool) (x : Operand) : (slotOf φ e x).val = (e, (val φ x).2) ∨ (slotOf φ e x = .v e (val φ x).2) := by
  cases x with
  | tmp t => simp only [slotOf, val]; cases hl : look φ t <;> simp [Sl.val]
  | const v => right; rfl
  | global g => right; rfl
  | func f => right; rfl

theorem fits_slotOf {φ : Fr} {a : Act} (h : Fits φ a) (e : Bool) (x : Operand) (hx : e = true → (val φ x).1 = true) :
    (e = true → FitsSl (slotOf φ e x) (a.eval x)) ∧ (e = false → FitsSl (slotOf φ e x) undef) := by
  constructor
  · intro he
    have hev := eval_of h x (hx he)
    subst he
    rw [hev]
    cases x with
    | tmp t => simp only [slotOf, val] at *; cases hl : look φ t <;> simp [FitsSl, Sl.val]
    | const v => simp [slotOf, FitsSl]
    | global g => simp [slotOf, FitsSl]
    | func f => simp [slotOf, FitsSl]
  · intro he
    subst he
    cases x with
    | tmp t => simp only [slotOf]; cases hl : look φ t <;> simp [FitsSl]
    | const v => simp [slotOf, FitsSl]
    | global g => simp [slotOf, FitsSl]
    | func f => simp [slotOf, FitsSl]

def notBox : Sl → Prop
  | .box _ _ _ => False
  | .dead => False
  | _ => True
theorem fits_one {x : Sl} {u v : Value} (h : notBox x) (hu : FitsSl x u) (hv : FitsSl x v) : u = v := by
  cases x <;> simp_all [notBox, FitsSl]
theorem slotOf_notBox (φ : Fr) (e : Bool) (x : Operand) : notBox (slotOf φ e x) := by
  cases x with
  | tmp t => simp only [slotOf]; cases look φ t <;> simp [notBox]
  | const v => simp [slotOf, notBox]
  | global g => simp [slotOf, notBox]
  | func f => simp [slotOf, notBox]

section runs
variable {P : Program} (w : World)

theorem run_ibin (op : BinOp) (t : TypeId) (x y : Operand) (k : IntKind) (a b : Int) (hop : ibinOk op = true) :
    ((do eqGuard op t x y (.int k a) (.int k b); binOp op t (.int k a) (.int k b) : Sem Value)).run P w = .ok (ibinV op k a b) w := by
  cases op <;> simp_all [ibinOk, eqGuard, binOp, Op.intArith, Op.intCmp, ibinV] <;> rfl

theorem run_idiv (op : BinOp) (t : TypeId) (x y : Operand) (k : IntKind) (a b : Int) (hop : op = .quo ∨ op = .rem) (hb : b ≠ 0) :
    ((do eqGuard op t x y (.int k a) (.int k b); binOp op t (.int k a) (.int k b) : Sem Value)).run P w = .ok (idivV op k a b) w := by
  rcases hop with rfl | rfl <;> simp_all [eqGuard, binOp, Op.intDiv, idivV]

theorem run_ishift (op : BinOp) (t : TypeId) (x y : Operand) (k ky : IntKind) (a b : Int) (hop : op = .shl ∨ op = .shr) (hb : 0 ≤ b) :
    ((do eqGuard op t x y (.int k a) (.int ky b); binOp op t (.int k a) (.int ky b) : Sem Value)).run P w = .ok (ishiftV op k a b) w := by
  have : ¬ b < 0 := by omega
  rcases hop with rfl | rfl <;> simp [eqGuard, binOp, Op.shift, ishiftV, this]

theorem run_sbin (op : BinOp) (t : TypeId) (x y : Operand) (a b : ByteArray) (r : Value) (hr : sbinV op a b = some r) :
    ((do eqGuard op t x y (.string a) (.string b); binOp op t (.string a) (.string b) : Sem Value)).run P w = .ok r w := by
  cases op <;> simp_all [sbinV, eqGuard, binOp, Op.stringOp]

theorem run_beq (op : BinOp) (t : TypeId) (x y : Operand) (a b : Bool) (neg : Bool) (ht : P.underlying t = some .bool) (hop : op = bif neg then .neq else .eql) :
    ((do eqGuard op t x y (.bool a) (.bool b); binOp op t (.bool a) (.bool b) : Sem Value)).run P w = .ok (.bool ((a == b) != neg)) w := by
  have h : ∀ d : Nat, (Op.equalIn (d + 1) t (.bool a) (.bool b)).run P w = .ok (a == b) w := fun d => by
    simp [Op.equalIn, run_underlying ht]
  subst hop
  cases neg <;> simp [eqGuard, binOp, Op.equal, Op.maxDepth, h 9999]

theorem run_nilq (kd : Nat) (op : BinOp) (t : TypeId) (x y : Operand) (u v : Value) (r : Bool) (neg : Bool)
    (ht : (kd = 0 ∧ ∃ e, P.underlying t = some (.slice e)) ∨ (kd = 1 ∧ ∃ e, P.underlying t = some (.pointer e)) ∨ (kd = 2 ∧ ∃ k e, P.underlying t = some (.map k e)) ∨ (kd = 3 ∧ ∃ p q z, P.underlying t = some (.func p q z)))
    (hop : op = bif neg then .neq else .eql)
    (hu : nilV kd u = some r) (hv : isNil kd v = true) :
    ((do eqGuard op t x y u v; binOp op t u v : Sem Value)).run P w = .ok (.bool (r != neg)) w := by
  subst hop
  have key : ∀ d : Nat, (Op.equalIn (d + 1) t u v).run P w = .ok r w ∧ (∀ (op : BinOp), eqGuard op t x y u v = pure ()) ∧ binOp .eql t u v = (do pure (.bool (← Op.equal t u v))) ∧ binOp .neq t u v = (do pure (.bool (!(← Op.equal t u v)))) := fun d => by
    rcases ht with ⟨rfl, e, ht⟩ | ⟨rfl, e, ht⟩ | ⟨rfl, k, e, ht⟩ | ⟨rfl, p, q, z, ht⟩
    · cases u <;> simp_all [nilV]
      cases v <;> simp_all [isNil]
      rename_i a n c a' n' c'
      cases a' <;> simp_all
      refine ⟨?_, fun op => by cases op <;> rfl, rfl, rfl⟩
      cases a <;> simp_all [Op.equalIn, run_underlying ht]
    · cases u <;> simp_all [nilV]
      cases v <;> simp_all [isNil]
      rename_i a a'
      cases a' <;> simp_all
      refine ⟨?_, fun op => by cases op <;> rfl, rfl, rfl⟩
      cases a <;> simp_all [Op.equalIn, run_underlying ht]
    · cases u <;> simp_all [nilV]
      cases v <;> simp_all [isNil]
      rename_i a a'
      cases a' <;> simp_all
      refine ⟨?_, fun op => by cases op <;> rfl, rfl, rfl⟩
      cases a <;> simp_all [Op.equalIn, run_underlying ht]
    · cases v <;> simp_all [isNil]
      cases u <;> simp_all [nilV]
      all_goals
        refine ⟨?_, fun op => by cases op <;> rfl, rfl, rfl⟩
        subst hu
        simp [Op.equalIn, run_underlying ht]
  obtain ⟨h, h2, h3, h4⟩ := key 9999
  cases neg <;> simp [h2, h3, h4, Op.equal, Op.maxDepth, h]

theorem run_unV (op : UnOp) (u r : Value) (h : unV op u = some r) : (Op.unary op u).run P w = .ok r w := by
  cases op <;> cases u <;> simp_all [unV, Op.unary, Op.intArith]

theorem run_conv (s d : TypeId) (k ks kx : IntKind) (n : Int) (hs : P.underlying s = some (.int ks)) (hd : P.underlying d = some (.int k)) :
    (convert s d (.int kx n)).run P w = .ok (.int k (k.wrap n)) w := by
  simp [convert, run_underlying hs, run_underlying hd, Conv.intToInt]

theorem szOf_some {t : TypeId} {n : Nat} (h : szOf P t = some n) : (∃ d, P.underlying t = some d) ∧ ∃ i, P.info? t = some i ∧ i.size = n := by
  unfold szOf at h
  split at h
  · rename_i d hd
    simp only [Option.map_eq_some_iff] at h
    obtain ⟨i, hi, hs⟩ := h
    exact ⟨⟨d, hd⟩, i, hi, hs⟩
  · simp at h
theorem run_fieldAt (t : TypeId) (fs : Array Field) (i : Nat) (f : Field) (n : Nat) (b o : Nat) (ht : P.underlying t = some (.struct fs)) (hf : fs[i]? = some f)
    (hs : szOf P f.type = some (n + 1)) : (Instr.fieldAt t (.pointer (some ⟨b, o, none⟩)) i).run P w = .ok (.pointer (some ⟨b, o + f.offset, none⟩)) w := by
  obtain ⟨_, j, hj, hjs⟩ := szOf_some hs
  simp [Instr.fieldAt, run_underlying ht, hf, Instr.sureAddr, fieldPlace, sizeOf, typeInfo, hj, hjs, Addr.add]

theorem run_isAgg (t : TypeId) (h : ∃ d, P.underlying t = some d) : (isAgg t).run P w = .ok (isTiny P t) w := by
  obtain ⟨d, hd⟩ := h
  simp only [isAgg, Sem.run_bind, run_underlying hd, Result.andThen_ok, isTiny, hd]
  cases d <;> rfl

theorem run_field (t : TypeId) (fs : Array Field) (i : Nat) (f : Field) (n : Nat) (cs : Array Value) (ht : P.underlying t = some (.struct fs)) (hf : fs[i]? = some f)
    (hs : szOf P f.type = some n) (hn : f.offset + n ≤ cs.size) (h1 : isTiny P f.type = false → n = 1) :
    (Instr.field t (.agg cs) i).run P w = .ok (mkv (isTiny P f.type) ((cs.toList.drop f.offset).take n)) w := by
  obtain ⟨hu, j, hj, hjs⟩ := szOf_some hs
  have hag := run_isAgg (P := P) w f.type hu
  simp only [Instr.field, Sem.run_bind, run_underlying ht, Result.andThen_ok, hf, asAgg, Sem.run_pure, part, hag]
  cases hb : isTiny P f.type with
  | true =>
    simp [sizeOf, typeInfo, hj, hjs, mkv]
    apply Array.ext'
    simp [List.extract_eq_take_drop]
  | false =>
    have := h1 hb
    subst this
    have hlt : f.offset < cs.size := by omega
    simp [mkv, hlt, List.drop_eq_getElem_cons (show f.offset < cs.toList.length by simpa using hlt)]

theorem run_len (str : Bool) (t : TypeId) (ty : TypeId) (u : Value) (n : Int) (ht : (str = false ∧ ∃ e, P.underlying t = some (.slice e)) ∨ (str = true ∧ P.underlying t = some .string)) (hu : lenV str u = some n) :
    (Builtin.len_ #[t] ty #[u]).run P w = .ok (.int .i64 n) w := by
  rcases ht with ⟨rfl, e, ht⟩ | ⟨rfl, ht⟩
  · cases u <;> simp [lenV] at hu
    subst hu
    simp [Builtin.len_, run_underlying ht, goInt]
  · cases u <;> simp [lenV] at hu
    subst hu
    simp [Builtin.len_, run_underlying ht, goInt]

theorem run_extract (vs : Array Value) (i : Nat) (r : Value) (h : vs.toList[i]? = some r) : (Instr.extract (.tuple vs) i).run P w = .ok r w := by
  have h' : vs[i]? = some r := by rw [← Array.getElem?_toList]; exact h
  simp [Instr.extract, h']
end runs

end Go.Proofs.Ytniobbepliknmaa.V
