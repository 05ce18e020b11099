/- The symbolic walk is sound: operations that make or change nothing; no condition. -/
import Derived.Test.YtniobbepliknmaaVb
namespace Go.Proofs.Ytniobbepliknmaa.V
open Go
set_option linter.unusedVariables false
set_option linter.unusedSimpArgs false

/-- what a pure operation yields -/
def Yields (P : Program) (φ : Fr) (e : Bool) (o : Oper) (k : Sl → Prop) : Prop :=
  ∃ sl, k sl ∧ notBox sl ∧ (e = false → FitsSl sl undef) ∧ (e = true → ∀ a w, Fits φ a → ∃ v, (execOp a.eval o).run P w = .ok (.value v) w ∧ FitsSl sl v)

theorem Yields.v {P : Program} {φ : Fr} {e : Bool} {o : Oper} {k : Sl → Prop} {x : Value} (hk : k (.v e x))
    (h : e = true → ∀ a w, Fits φ a → (execOp a.eval o).run P w = .ok (.value x) w) : Yields P φ e o k :=
  ⟨.v e x, hk, trivial, fun he => by subst he; rfl, fun he a w hf => ⟨x, h he a w hf, by subst he; rfl⟩⟩
theorem Yields.r {P : Program} {φ : Fr} {e : Bool} {o : Oper} {k : Sl → Prop} {s b off : Nat} (hk : k (.ref e s b off))
    (h : e = true → ∀ a w, Fits φ a → (execOp a.eval o).run P w = .ok (.value (.pointer (some ⟨b, off, none⟩))) w) : Yields P φ e o k :=
  ⟨.ref e s b off, hk, trivial, fun he => by subst he; rfl, fun he a w hf => ⟨_, h he a w hf, by subst he; rfl⟩⟩

/-- the address that a slot holds -/
theorem addr_of {φ : Fr} {a : Act} (h : Fits φ a) {e : Bool} {x : Operand} (hx : e = true → (val φ x).1 = true) (he : e = true) :
    (∀ e' s b o, slotOf φ e x = .ref e' s b o → a.eval x = .pointer (some ⟨b, o, none⟩)) ∧ (∀ e' u, slotOf φ e x = .v e' u → a.eval x = u) := by
  have h1 := (fits_slotOf h e x hx).1 he
  have h2 : ∀ e' s b o, slotOf φ e x = .ref e' s b o → e' = e := by
    intro e' s b o hs
    cases x with
    | tmp t => simp only [slotOf] at hs; cases hl : look φ t <;> rw [hl] at hs <;> simp at hs <;> exact hs.1.symm
    | const v => simp [slotOf] at hs
    | global g => simp [slotOf] at hs
    | func f => simp [slotOf] at hs
  have h3 : ∀ e' u, slotOf φ e x = .v e' u → e' = e := by
    intro e' u hs
    cases x with
    | tmp t => simp only [slotOf] at hs; cases hl : look φ t <;> rw [hl] at hs <;> simp at hs <;> exact hs.1.symm
    | const v => simp [slotOf] at hs; exact hs.1.symm
    | global g => simp [slotOf] at hs; exact hs.1.symm
    | func f => simp [slotOf] at hs; exact hs.1.symm
  refine ⟨fun e' s b o hs => ?_, fun e' u hs => ?_⟩
  · have := h2 _ _ _ _ hs; subst this; rw [hs] at h1; simpa [FitsSl, he] using h1
  · have := h3 _ _ hs; subst this; rw [hs] at h1; simpa [FitsSl, he] using h1

section
variable {P : Program} {φ : Fr} {e : Bool} {o : Oper} {k : Sl → Prop} {loc : Bool}

theorem ok_mv {x : Operand} (ho : o.op = .move x ∨ o.op = .assign x) (hv : pureV φ e (.mv x) k) : Yields P φ e o k := by
  obtain ⟨h1, h2⟩ := hv
  refine ⟨slotOf φ e x, h2, slotOf_notBox φ e x, ?_, fun he a w hf => ⟨a.eval x, ?_, (fits_slotOf hf e x h1).1 he⟩⟩
  · intro he
    subst he
    cases x with
    | tmp t => simp only [slotOf]; cases look φ t <;> rfl
    | const v => rfl
    | global g => rfl
    | func f => rfl
  · rcases ho with ho | ho <;> simp [execOp, ho]

theorem ok_pick {c x y : Operand} (ho : o.op = .pick c x y) (hv : pureV φ e (.pick c x y) k) : Yields P φ e o k := by
  simp only [pureV] at hv
  split at hv
  · rename_i ec cb hc
    obtain ⟨h1, h2, h3, h4⟩ := hv
    refine Yields.v h4 fun he a w hf => ?_
    have e1 := eval_of hf c (by rw [hc]; exact h1 he)
    rw [hc] at e1
    simp only [execOp, ho, e1, asBool, Sem.run_bind, Sem.run_pure, Result.andThen_ok]
    cases cb with
    | true =>
      have e2 := eval_of hf x (h2 he rfl)
      simp [e2, pickV]
      split <;> simp_all
    | false =>
      have e2 := eval_of hf y (h3 he rfl)
      simp [e2, pickV]
      split <;> simp_all
  · exact hv.elim

theorem ok_ibin {op : BinOp} {t yt : TypeId} {x y : Operand} (ho : o.op = .binOp op t x y yt) (hv : pureV φ e (.ibin op x y) k) : Yields P φ e o k := by
  simp only [pureV] at hv
  split at hv
  · rename_i ex kx a ey ky b hx hy
    obtain ⟨h1, rfl, h2, h3, h4⟩ := hv
    refine Yields.v h4 fun he ac w hf => ?_
    have e1 := eval_of hf x (by rw [hx]; exact h2 he)
    have e2 := eval_of hf y (by rw [hy]; exact h3 he)
    rw [hx] at e1
    rw [hy] at e2
    simp only [execOp, ho, e1, e2]
    have := run_ibin (P := P) w op t x y kx a b h1
    simp only [Sem.run_bind] at this ⊢
    simp [this]
  · exact hv.elim

theorem ok_sbin {op : BinOp} {t yt : TypeId} {x y : Operand} (ho : o.op = .binOp op t x y yt) (hv : pureV φ e (.sbin op x y) k) : Yields P φ e o k := by
  simp only [pureV] at hv
  split at hv
  · rename_i ex a ey b hx hy
    obtain ⟨r, h1, h2, h3, h4⟩ := hv
    refine Yields.v h4 fun he ac w hf => ?_
    have e1 := eval_of hf x (by rw [hx]; exact h2 he)
    have e2 := eval_of hf y (by rw [hy]; exact h3 he)
    rw [hx] at e1
    rw [hy] at e2
    simp only [execOp, ho, e1, e2]
    have := run_sbin (P := P) w op t x y a b r h1
    simp only [Sem.run_bind] at this ⊢
    simp [this]
  · exact hv.elim

theorem ok_beq {op : BinOp} {t yt : TypeId} {x y : Operand} {neg : Bool} (ht : P.underlying t = some .bool) (hop : op = bif neg then .neq else .eql)
    (ho : o.op = .binOp op t x y yt) (hv : pureV φ e (.beq neg x y) k) : Yields P φ e o k := by
  simp only [pureV] at hv
  split at hv
  · rename_i ex a ey b hx hy
    obtain ⟨h2, h3, h4⟩ := hv
    refine Yields.v h4 fun he ac w hf => ?_
    have e1 := eval_of hf x (by rw [hx]; exact h2 he)
    have e2 := eval_of hf y (by rw [hy]; exact h3 he)
    rw [hx] at e1
    rw [hy] at e2
    simp only [execOp, ho, e1, e2]
    have := run_beq (P := P) w op t x y a b neg ht hop
    simp only [Sem.run_bind] at this ⊢
    simp [this]
  · exact hv.elim

theorem ok_nilq {kd : Nat} {op : BinOp} {t yt : TypeId} {x y : Operand} {neg : Bool}
    (ht : (kd = 0 ∧ ∃ e, P.underlying t = some (.slice e)) ∨ (kd = 1 ∧ ∃ e, P.underlying t = some (.pointer e)) ∨ (kd = 2 ∧ ∃ k e, P.underlying t = some (.map k e)) ∨ (kd = 3 ∧ ∃ p q z, P.underlying t = some (.func p q z)))
    (hop : op = bif neg then .neq else .eql) (ho : o.op = .binOp op t x y yt) (hv : pureV φ e (.nilq kd neg x y) k) : Yields P φ e o k := by
  obtain ⟨h1, h1', r, h2, h3, h4⟩ := hv
  refine Yields.v h4 fun he ac w hf => ?_
  have e1 := eval_of hf x (h3 he)
  have e2 := eval_of hf y (h1' he)
  simp only [execOp, ho, e1, e2]
  have := run_nilq (P := P) w kd op t x y _ _ r neg ht hop h2 h1
  simp only [Sem.run_bind] at this ⊢
  simp [this]

theorem ok_un {op : UnOp} {t : TypeId} {x : Operand} (ho : o.op = .unOp op t x) (hv : pureV φ e (.un op x) k) : Yields P φ e o k := by
  obtain ⟨r, h2, h3, h4⟩ := hv
  refine Yields.v h4 fun he ac w hf => ?_
  have e1 := eval_of hf x (h3 he)
  simp [execOp, ho, e1, run_unV (P := P) w op _ r h2]

theorem ok_conv {kd ks : IntKind} {s d : TypeId} {x : Operand} (hs : P.underlying s = some (.int ks)) (hd : P.underlying d = some (.int kd)) (ho : o.op = .convert s d x) (hv : pureV φ e (.conv kd x) k) : Yields P φ e o k := by
  simp only [pureV] at hv
  split at hv
  · rename_i ex kx n hx
    obtain ⟨h2, h4⟩ := hv
    refine Yields.v h4 fun he ac w hf => ?_
    have e1 := eval_of hf x (by rw [hx]; exact h2 he)
    rw [hx] at e1
    simp [execOp, ho, e1, run_conv (P := P) w s d kd ks kx n hs hd]
  · exact hv.elim

theorem ok_fld {t : TypeId} {fs : Array Field} {i : Nat} {f : Field} {n : Nat} {x : Operand} (ht : P.underlying t = some (.struct fs)) (hf : fs[i]? = some f)
    (hs : szOf P f.type = some (n + 1)) (ho : o.op = .fieldAddr t x i) (hv : pureV φ e (.fld f.offset x) k) : Yields P φ e o k := by
  simp only [pureV] at hv
  split at hv
  · rename_i e' s b off hx
    refine Yields.r hv.2 fun he ac w hfit => ?_
    have e1 := (addr_of hfit hv.1 he).1 _ _ _ _ hx
    simp [execOp, ho, e1, run_fieldAt (P := P) w t fs i f n b off ht hf hs]
  · rename_i e' b off hx
    refine Yields.v hv.2 fun he ac w hfit => ?_
    have e1 := (addr_of hfit hv.1 he).2 _ _ hx
    simp [execOp, ho, e1, run_fieldAt (P := P) w t fs i f n b off ht hf hs]
  · exact hv.elim

theorem ok_nilCheck {x : Operand} (ho : o.op = .nilCheck x) (hv : pureV φ e (.nilCheck x) k) : Yields P φ e o k := by
  simp only [pureV] at hv
  split at hv
  · rename_i e' s b off hx
    refine Yields.r hv.2 fun he ac w hfit => ?_
    have e1 := (addr_of hfit hv.1 he).1 _ _ _ _ hx
    simp [execOp, ho, e1]
  · rename_i e' ad hx
    refine Yields.v hv.2 fun he ac w hfit => ?_
    have e1 := (addr_of hfit hv.1 he).2 _ _ hx
    simp [execOp, ho, e1]
  · rename_i e' f c1 c2 hx
    refine Yields.v hv.2 fun he ac w hfit => ?_
    have e1 := (addr_of hfit hv.1 he).2 _ _ hx
    simp [execOp, ho, e1]
  · exact hv.elim

theorem ok_field {t : TypeId} {fs : Array Field} {i : Nat} {f : Field} {n : Nat} {x : Operand} (ht : P.underlying t = some (.struct fs)) (hf : fs[i]? = some f)
    (hs : szOf P f.type = some n) (ho : o.op = .field t x i) (hv : pureV φ e (.field (isTiny P f.type) f.offset n x) k) : Yields P φ e o k := by
  simp only [pureV] at hv
  split at hv
  · rename_i ex cs hx
    obtain ⟨h1, h2, h3, h4⟩ := hv
    refine Yields.v h4 fun he ac w hfit => ?_
    have e1 := eval_of hfit x (by rw [hx]; exact h1 he)
    rw [hx] at e1
    simp [execOp, ho, e1, run_field (P := P) w t fs i f n cs ht hf hs h2 h3]
  · exact hv.elim

theorem ok_len {str : Bool} {t : TypeId} {x : Operand} (ht : (str = false ∧ ∃ e, P.underlying t = some (.slice e)) ∨ (str = true ∧ P.underlying t = some .string))
    (ho : o.op = .call { callee := .builtin .len, args := #[x], argTypes := #[t] }) (hv : pureV φ e (.len str x) k) : Yields P φ e o k := by
  obtain ⟨n, h2, h3, h4⟩ := hv
  refine Yields.v h4 fun he ac w hf => ?_
  have e1 := eval_of hf x (h3 he)
  simp [execOp, ho, resolve, invoke, builtin, e1, run_len (P := P) w str t _ _ n ht h2]

theorem ok_extract {i : Nat} {x : Operand} (ho : o.op = .extract x i) (hv : pureV φ e (.extract i x) k) : Yields P φ e o k := by
  simp only [pureV] at hv
  split at hv
  · rename_i ex vs hx
    obtain ⟨r, h2, h3, h4⟩ := hv
    refine Yields.v h4 fun he ac w hf => ?_
    have e1 := eval_of hf x (by rw [hx]; exact h3 he)
    rw [hx] at e1
    simp [execOp, ho, e1, run_extract (P := P) w vs i r h2]
  · exact hv.elim

theorem ok_mkFunc {fn : FuncId} {caps : Array Operand} (ho : o.op = .makeFunc (.func fn) #[] caps) (hv : pureV φ e (.mkFunc fn caps.toList) k) : Yields P φ e o k := by
  obtain ⟨h1, h4⟩ := hv
  refine Yields.v h4 fun he ac w hf => ?_
  have e1 := vals_of hf he _ h1
  simp only [execOp, ho, Instr.makeFunc]
  simp [← e1]
  apply Array.ext'
  simp

theorem ok_fn {c : Fk} {xs : List Operand} (hx : ∀ (a : Act) (w : World) (r : Value), fnV c (xs.map a.eval) = some r → (execOp a.eval o).run P w = .ok (.value r) w) (hv : pureV φ e (.fn c xs) k) : Yields P φ e o k := by
  obtain ⟨r, h1, h2⟩ := hv
  refine Yields.v h2 fun he ac w hf => ?_
  obtain ⟨q1, q2⟩ := h1 he
  refine hx ac w r ?_
  rw [vals_of hf rfl xs q1]
  exact q2

/-! parts of a struct or of a slice's literal -/
theorem fill_ok {N : Nat} {place : Nat → Option (Nat × Nat)} {a : Act} {φ : Fr} (hf : Fits φ a) {e : Bool} (he : e = true) : ∀ (parts : List (Nat × Operand)) (l : List (Nat × Nat × Operand)) (z : List Value),
    mapParts N place parts = some l → partOn φ e l → fits (partVals φ l) → z.length = N →
    Instr.fill place z.toArray (parts.map fun p => (p.1, a.eval p.2)) = some (fillL z (partVals φ l)).toArray
  | [], l, z, h, _, _, _ => by
    simp only [mapParts, Option.some.injEq] at h
    subst h
    rfl
  | (i, x) :: r, l, z, h, hon, hfi, hz => by
    simp only [mapParts] at h
    split at h
    · rename_i off n l' hp hr
      cases hd : decide (off + n ≤ N) with
      | false => rw [hd] at h; simp at h
      | true =>
      rw [hd] at h
      simp only [cond_true, Option.some.injEq] at h
      have hz1 : off + n ≤ z.length := by rw [hz]; exact of_decide_eq_true hd
      subst h
      obtain ⟨h1, h2⟩ := hon
      obtain ⟨h3, h4⟩ := hfi
      have hev := eval_of hf x (h1 he)
      simp only [List.map_cons, Instr.fill, hp, hev, partVals, fillL]
      have hcells : ((val φ x).2.cells.size : Nat) = n := by rw [← h3]; cases (val φ x).2 <;> simp [Value.cells, cellsV]
      have hset : ∀ (cs : List Value) (off : Nat) (z : List Value), off + cs.length ≤ z.length →
          cs.toArray.zipIdx.foldl (fun (q : Array Value) (p : Value × Nat) => q.setIfInBounds (off + p.2) p.1) z.toArray = (z.take off ++ cs ++ z.drop (off + cs.length)).toArray := by
        intro cs off z hle
        have gen : ∀ (cs : List Value) (j off : Nat) (z : List Value), off + j + cs.length ≤ z.length →
            (cs.zipIdx j).foldl (fun (q : Array Value) (p : Value × Nat) => q.setIfInBounds (off + p.2) p.1) z.toArray = (z.take (off + j) ++ cs ++ z.drop (off + j + cs.length)).toArray := by
          intro cs
          induction cs with
          | nil => intro j off z _; simp
          | cons c cs ih =>
            intro j off z hle
            simp only [List.length_cons] at hle
            have := ih (j + 1) off (z.set (off + j) c) (by simp; omega)
            simp only [List.zipIdx_cons, List.foldl_cons, List.setIfInBounds_toArray, this]
            congr 1
            have hlt : off + j < z.length := by omega
            rw [show off + (j + 1) = off + j + 1 by omega, List.drop_set_of_lt (by omega), List.take_add_one, List.take_set_of_le (Nat.le_refl _)]
            simp [hlt, List.append_assoc]
            omega
        have := gen cs 0 off z (by omega)
        simpa using this
      have hcl : (val φ x).2.cells = (cellsV (val φ x).2).toArray := by cases (val φ x).2 <;> simp [Value.cells, cellsV]
      rw [if_neg (by simp [hcells]; omega)]
      rw [hcl, hset _ _ _ (by rw [h3]; omega), h3]
      refine fill_ok hf he r l' _ hr h2 h4 ?_
      simp only [List.length_append, List.length_take, List.length_drop, h3]
      omega
    · simp at h

theorem ok_build {P : Program} {φ : Fr} {e : Bool} {o : Oper} {k : Sl → Prop} {t : TypeId} {fs : Array Field} {z : Value} {parts : Array (Nat × Operand)} {l : List (Nat × Nat × Operand)}
    (ht : P.underlying t = some (.struct fs)) (hz : (P.info? t).bind (·.zero) = some z)
    (hp : mapParts (cellsV z).length (placeOf P fs) parts.toList = some l)
    (hall : ∀ f ∈ fs, ∃ n, szOf P f.type = some n)
    (ho : o.op = .build t parts) (hv : pureV φ e (.build t (cellsV z) l) k) : Yields P φ e o k := by
  obtain ⟨h1, h2, h4⟩ := hv
  refine Yields.v h4 fun he ac w hf => ?_
  obtain ⟨i, hi, hiz⟩ := Option.bind_eq_some_iff.1 hz
  have hzc : z.cells = (cellsV z).toArray := by cases z <;> simp [Value.cells, cellsV]
  have hm : (fs.mapM (m := Sem) fun f => do pure (f.offset, ← sizeOf f.type)).run P w = .ok (fs.map fun f => (f.offset, (szOf P f.type).getD 0)) w := by
    rw [Array.mapM_eq_mapM_toList]
    have : ∀ (l : List Field), (∀ f ∈ l, ∃ n, szOf P f.type = some n) → (l.mapM (m := Sem) fun f => do pure (f.offset, ← sizeOf f.type)).run P w = .ok (l.map fun f => (f.offset, (szOf P f.type).getD 0)) w := by
      intro l
      induction l with
      | nil => intro _; rfl
      | cons f l ih =>
        intro h
        obtain ⟨n, hn⟩ := h f (by simp)
        obtain ⟨_, j, hj, hjs⟩ := szOf_some hn
        have := ih (fun g hg => h g (by simp [hg]))
        have hs1 : (sizeOf f.type).run P w = .ok n w := by simp [sizeOf, typeInfo, hj, hjs]
        simp only [List.mapM_cons, Sem.run_bind, hs1, Result.andThen_ok, Sem.run_pure, this, List.map_cons, hn, Option.getD_some]
    rw [Sem.run_map, this fs.toList (fun f hf => hall f (by simpa using hf))]
    simp only [Result.andThen_ok]
    congr 1
    apply Array.ext'
    simp
  have hfill := fill_ok hf he parts.toList l (cellsV z) hp h1 h2 rfl
  simp only [execOp, ho, Instr.build, Sem.run_bind, zeroValue, typeInfo, run_program, Result.andThen_ok, hi, Sem.run_pure, hiz, run_underlying ht, hm, hzc]
  have hfun : placeOf P fs = (fun i => (fs.map fun (f : Field) => (f.offset, (szOf P f.type).getD 0))[i]?) := funext fun i => by
    rw [Array.getElem?_map]
    unfold placeOf
    cases hfi : fs[i]? with
    | none => rfl
    | some f =>
      obtain ⟨n, hn⟩ := hall f (Array.mem_of_getElem? hfi)
      simp [hn]
  rw [hfun] at hfill
  have hlist : (parts.map fun x => match x with | (i, x) => (i, ac.eval x)).toList = parts.toList.map fun p => (p.1, ac.eval p.2) := by simp
  simp only [hlist, hfill]
  rfl

end
end Go.Proofs.Ytniobbepliknmaa.V
