/- The symbolic walk is sound: operations that make or change memory, and calls; no condition. -/
import Derived.Test.YtniobbepliknmaaVd
namespace Go.Proofs.Ytniobbepliknmaa.V
open Go
set_option linter.unusedVariables false
set_option linter.unusedSimpArgs false

theorem Disj.symm {h h' : PH} (d : Disj h h') : Disj h' h := fun k => (d k).symm
theorem one_self (b : Nat) (o : Obj) : one b o b = some o := by simp [one]
theorem one_some {b k : Nat} {o p : Obj} (h : one b o k = some p) : k = b ∧ p = o := by
  unfold one at h
  split at h
  · rename_i e; exact ⟨e, (Option.some.inj h).symm⟩
  · cases h
theorem one_none {b k : Nat} {o : Obj} (h : k ≠ b) : one b o k = none := by simp [one, h]
theorem Sat.lt {Γ : Ctx} {w : World} (h : Sat Γ w) {g : PH} (hg : g ∈ Γ) {k : Nat} (hk : g k ≠ none) : k < w.heap.size := by
  cases ho : g k with
  | none => exact absurd ho hk
  | some o => exact (Array.getElem?_eq_some_iff.1 (h.holds g hg k o ho)).1
theorem perm_apart {Γ Γ' : Ctx} (h : Γ.Perm Γ') (ha : Γ.Pairwise Disj) : Γ'.Pairwise Disj := (h.pairwise_iff (fun d => d.symm)).1 ha

section
variable {n : Nat} {Γr Γm : Ctx} {w0 : World} {φ : Fr} {Γ Γ' : Ctx} {a : Act} {w w' : World} {P : Program}

/-- memory has changed at the heaps of Γ alone, which are Γ' now -/
theorem St.step (h : St n Γr Γm w0 φ Γ a w) (hsat : Sat (Γ' ++ Γr) w') (hown : ∀ h ∈ Γ', ∀ k, h k ≠ none → w.heap.size ≤ k ∨ ∃ g ∈ Γ, g k ≠ none)
    (hos : w'.os = w.os) (htape : w'.tape = w.tape) (hout : w'.output = w.output) (hsize : w.heap.size ≤ w'.heap.size)
    (hsame : ∀ k, k < w.heap.size → (∀ g ∈ Γ, g k = none) → w'.heap[k]? = w.heap[k]?) : St n Γr Γm w0 φ Γ' a w' := by
  refine { n := h.n, defers := h.defers, fits := h.fits, bx := ?_, bxd := h.bxd, sat := hsat, own := ?_, os := hos.trans h.os, tape := htape.trans h.tape, output := hout.trans h.output, size := Nat.le_trans h.size hsize, same := ?_ }
  · intro t b T cs hl
    obtain ⟨h1, h2, h3⟩ := h.bx t b T cs hl
    have hlt : b < w.heap.size := (Array.getElem?_eq_some_iff.1 h1).1
    refine ⟨by rw [hsame b hlt (fun g hg => h3 g (by simp [hg]))]; exact h1, h2, fun g hg => ?_⟩
    rcases List.mem_append.1 hg with hg | hg
    · cases hk : g b with
      | none => rfl
      | some o =>
        rcases hown g hg b (by rw [hk]; simp) with q | ⟨g', hg', q⟩
        · omega
        · exact absurd (h3 g' (by simp [hg'])) q
    · exact h3 g (by simp [hg])
  · intro g hg k hk
    rcases hown g hg k hk with q | ⟨g', hg', q⟩
    · left; have := h.size; omega
    · exact h.own g' hg' k q
  · intro k hk hm
    rw [hsame k (by have := h.size; omega) (fun g hg => by
      cases hgk : g k with
      | none => rfl
      | some o =>
        rcases h.own g hg k (by rw [hgk]; simp) with q | ⟨g', hg', q⟩
        · omega
        · exact absurd (hm g' hg') q)]
    exact h.same k hk hm

theorem heap_new (w : World) (o : Obj) : (w.alloc o).heap[w.heap.size]? = some o := by
  show (w.heap.push o)[w.heap.size]? = some o
  simp
theorem heap_old (w : World) (o : Obj) {k : Nat} (hk : k < w.heap.size) : (w.alloc o).heap[k]? = w.heap[k]? := by
  show (w.heap.push o)[k]? = _
  rw [Array.getElem?_push, if_neg (by omega)]

theorem Sat.alloc {Δ : Ctx} (h : Sat Δ w) (o : Obj) : Sat (one w.heap.size o :: Δ) (w.alloc o) := by
  refine ⟨?_, ?_⟩
  · intro g hg k p hk
    rcases List.mem_cons.1 hg with rfl | hg
    · obtain ⟨rfl, rfl⟩ := one_some hk
      exact heap_new w p
    · have := h.lt hg (k := k) (by rw [hk]; simp)
      rw [heap_old w o this]
      exact h.holds g hg k p hk
  · refine List.pairwise_cons.2 ⟨fun g hg k => ?_, h.apart⟩
    by_cases e : k = w.heap.size
    · right
      cases hgk : g k with
      | none => rfl
      | some p => have := h.lt hg (k := k) (by rw [hgk]; simp); omega
    · exact .inl (one_none e)

/-- a new block of the call's own -/
theorem St.alloc (h : St n Γr Γm w0 φ Γ a w) (o : Obj) : St n Γr Γm w0 φ (one w.heap.size o :: Γ) a (w.alloc o) := by
  refine h.step (h.sat.alloc o) ?_ rfl rfl rfl (by simp) (fun k hk _ => heap_old w o hk)
  intro g hg k hk
  rcases List.mem_cons.1 hg with rfl | hg
  · left
    cases hgk : one w.heap.size o k with
    | none => exact absurd hgk hk
    | some p => obtain ⟨rfl, _⟩ := one_some hgk; exact Nat.le_refl _
  · exact .inr ⟨g, hg, hk⟩

theorem St.drew (h : St n Γr Γm w0 φ Γ a w) : St n Γr Γm w0 φ Γ a w.drew :=
  h.step ⟨h.sat.holds, h.sat.apart⟩ (fun g hg k hk => .inr ⟨g, hg, hk⟩) rfl rfl rfl (Nat.le_refl _) (fun _ _ _ => rfl)

/-- a new block behind a slot -/
theorem St.box (h : St n Γr Γm w0 φ Γ a w) {d : Option Nat} (hd : ∀ t, d = some t → t < n) (T : TypeId) (cs : List Value) :
    St n Γr Γm w0 (V.put φ d (.box w.heap.size T cs)) Γ (a.put d (.pointer (some ⟨w.heap.size, 0, none⟩))) (w.alloc (.cells cs.toArray T)) := by
  have h1 : St n Γr Γm w0 φ Γ a (w.alloc (.cells cs.toArray T)) :=
    h.step ⟨fun g hg k p hk => by rw [heap_old w _ (h.sat.lt hg (k := k) (by rw [hk]; simp))]; exact h.sat.holds g hg k p hk, h.sat.apart⟩
      (fun g hg k hk => .inr ⟨g, hg, hk⟩) rfl rfl rfl (by simp) (fun k hk _ => heap_old w _ hk)
  cases d with
  | none => exact h1
  | some d =>
    have hlt : d < a.tmps.size := by rw [h.n]; exact hd d rfl
    have hfresh : ∀ t b T' cs', look φ t = .box b T' cs' → b < w.heap.size := fun t b T' cs' hl => (Array.getElem?_eq_some_iff.1 (h.bx t b T' cs' hl).1).1
    refine { h1 with n := by simp [Act.put, h.n], defers := h.defers, fits := ?_, bx := ?_, bxd := ?_ }
    · intro t
      simp only [V.put]
      rw [look_cons, getD_put a d t _ hlt]
      by_cases e : d = t
      · simp [e, FitsSl]
      · simp only [e, if_false]; exact h.fits t
    · intro t b T' cs' hl
      simp only [V.put] at hl
      rw [look_cons] at hl
      by_cases e : d = t
      · rw [if_pos e] at hl
        simp only [Sl.box.injEq] at hl
        obtain ⟨rfl, rfl, rfl⟩ := hl
        refine ⟨heap_new w _, h.size, fun g hg => ?_⟩
        cases hgk : g w.heap.size with
        | none => rfl
        | some p => have := h.sat.lt hg (k := w.heap.size) (by rw [hgk]; simp); omega
      · rw [if_neg e] at hl; exact h1.bx t b T' cs' hl
    · intro t t' b T1 cs1 T2 cs2 hl hl'
      simp only [V.put] at hl hl'
      rw [look_cons] at hl hl'
      by_cases e : d = t
      · by_cases e' : d = t'
        · exact e.symm.trans e'
        · rw [if_pos e] at hl
          rw [if_neg e'] at hl'
          simp only [Sl.box.injEq] at hl
          have := hfresh _ _ _ _ hl'
          omega
      · by_cases e' : d = t'
        · rw [if_neg e] at hl
          rw [if_pos e'] at hl'
          simp only [Sl.box.injEq] at hl'
          have := hfresh _ _ _ _ hl
          omega
        · rw [if_neg e] at hl; rw [if_neg e'] at hl'; exact h.bxd _ _ _ _ _ _ _ hl hl'

theorem cells_eq (v : Value) : v.cells = (cellsV v).toArray := by cases v <;> simp [Value.cells, cellsV]

/-! the operations -/
/-- what an operation that acts leaves -/
def Acts (P : Program) (n : Nat) (Γr Γm : Ctx) (w0 : World) (o : Oper) (a : Act) (w : World) (k : Fr → Ctx → Prop) : Prop :=
  ∀ (next : Act → World → Prop) (Q : Exit → Act → World → Prop), (∀ φ' Γ' a' w', k φ' Γ' → St n Γr Γm w0 φ' Γ' a' w' → next a' w') → o.wp P a w next Q

theorem Acts.value {o : Oper} {k : Fr → Ctx → Prop} {v : Value} {φ' : Fr} {Γ' : Ctx} (hr : (execOp a.eval o).run P w = .ok (.value v) w') (hk : k φ' Γ')
    (hs : St n Γr Γm w0 φ' Γ' (a.put o.dst v) w') : Acts P n Γr Γm w0 o a w k := by
  intro next Q hn
  unfold Oper.wp
  rw [hr]
  exact hn _ _ _ _ hk hs
theorem Acts.unit {o : Oper} {k : Fr → Ctx → Prop} {φ' : Fr} {Γ' : Ctx} (hr : (execOp a.eval o).run P w = .ok .skip w') (hk : k φ' Γ')
    (hs : St n Γr Γm w0 φ' Γ' (a.put o.dst undef) w') : Acts P n Γr Γm w0 o a w k := by
  intro next Q hn
  unfold Oper.wp
  rw [hr]
  exact hn _ _ _ _ hk hs

variable {o : Oper} {k : Fr → Ctx → Prop}

theorem ok_box {loc : Bool} {T : TypeId} {x : Operand} (h : St n Γr Γm w0 φ Γ a w) (hd : ∀ t, o.dst = some t → t < n) (ho : o.op = .box T x) (hv : effV P Γr φ Γ o.dst (.box loc T x) k) : Acts P n Γr Γm w0 o a w k := by
  have hrun : ∀ (hx : (val φ x).1 = true), (execOp a.eval o).run P w = .ok (.value (.pointer (some ⟨w.heap.size, 0, none⟩))) (w.alloc (.cells (cellsV (val φ x).2).toArray T)) := by
    intro hx
    have e1 := eval_of h.fits x hx
    simp only [execOp, ho, e1, Instr.box, newVar, newRow, cells_eq]
    rfl
  cases loc with
  | true =>
    obtain ⟨h1, h2, h3⟩ := hv
    exact .value (hrun h1) (h3 w.heap.size) (h.box hd T _)
  | false =>
    obtain ⟨h1, h2, h3⟩ := hv
    exact .value (hrun h1) (h3 w.heap.size) ((h.alloc _).put hd trivial rfl)

theorem ok_alloc {loc : Bool} {T : TypeId} {z : Value} (h : St n Γr Γm w0 φ Γ a w) (hd : ∀ t, o.dst = some t → t < n) (hz : (P.info? T).bind (·.zero) = some z) (ho : o.op = .alloc T)
    (hv : effV P Γr φ Γ o.dst (.alloc loc T z) k) : Acts P n Γr Γm w0 o a w k := by
  obtain ⟨i, hi, hiz⟩ := Option.bind_eq_some_iff.1 hz
  have hrun : (execOp a.eval o).run P w = .ok (.value (.pointer (some ⟨w.heap.size, 0, none⟩))) (w.alloc (.cells (cellsV z).toArray T)) := by
    simp only [execOp, ho, Instr.alloc, zeroValue, typeInfo, Sem.run_bind, run_program, Result.andThen_ok, hi, Sem.run_pure, hiz, newVar, newRow, cells_eq]
    rfl
  cases loc with
  | true => exact .value hrun (hv w.heap.size) (h.box hd T _)
  | false => exact .value hrun (hv w.heap.size) ((h.alloc _).put hd trivial rfl)

theorem zerosL_length (z : List Value) : ∀ m, (zerosL z m).length = m * z.length
  | 0 => by simp [zerosL]
  | m + 1 => by simp [zerosL, zerosL_length z m, Nat.add_mul, Nat.add_comm]
theorem zerosL_get (z : List Value) (hz : 0 < z.length) : ∀ m j, j < m * z.length → (zerosL z m)[j]? = z[j % z.length]?
  | 0, j, h => by simp at h
  | m + 1, j, h => by
    simp only [zerosL]
    by_cases hj : j < z.length
    · rw [List.getElem?_append_left hj, Nat.mod_eq_of_lt hj]
    · rw [List.getElem?_append_right (by omega), zerosL_get z hz m (j - z.length) (by rw [Nat.add_mul] at h; omega)]
      congr 1
      conv => rhs; rw [show j = (j - z.length) + z.length by omega, Nat.add_mod_right]
theorem zerosL_made (z : List Value) (hz : 0 < z.length) (m : Nat) : (Array.range (m * z.length)).map (fun i => z.toArray[i % z.toArray.size]!) = (zerosL z m).toArray := by
  apply Array.ext'
  apply List.ext_getElem?
  intro j
  by_cases hj : j < m * z.length
  · have hmod := Nat.mod_lt j hz
    simp [zerosL_get z hz m j hj, hj, List.getElem?_eq_getElem hmod, getElem!_pos, hmod]
  · have h1 : (zerosL z m)[j]? = none := List.getElem?_eq_none (by rw [zerosL_length]; omega)
    simp [h1, hj]

theorem ok_buildS {t el : TypeId} {len sz : Nat} {z : Value} {parts : Array (Nat × Operand)} {l : List (Nat × Nat × Operand)} (h : St n Γr Γm w0 φ Γ a w) (hd : ∀ t, o.dst = some t → t < n)
    (ht : P.underlying t = some (.slice el)) (hz : (P.info? el).bind (·.zero) = some z) (hs : szOf P el = some sz) (hp : mapParts (len * sz) (fun i => some (i * sz, sz)) parts.toList = some l)
    (h0 : 0 < sz) (hlim : len * sz ≤ 1000) (hzs : (cellsV z).length = sz) (ho : o.op = .buildSlice t len parts) (hv : effV P Γr φ Γ o.dst (.buildS el len (zerosL (cellsV z) len) l) k) : Acts P n Γr Γm w0 o a w k := by
  obtain ⟨h1, h2, h3⟩ := hv
  obtain ⟨_, i, hi, his⟩ := szOf_some hs
  obtain ⟨i', hi', hiz⟩ := Option.bind_eq_some_iff.1 hz
  obtain rfl : i = i' := Option.some.inj (hi.symm.trans hi')
  have hfill := fill_ok h.fits rfl parts.toList l (zerosL (cellsV z) len) hp h1 h2 (by rw [zerosL_length, hzs])
  have hlist : (parts.map fun x => match x with | (i, x) => (i, a.eval x)).toList = parts.toList.map fun p => (p.1, a.eval p.2) := by simp
  have hmade := zerosL_made (cellsV z) (by omega) len
  have hn : ¬ (len * sz > 2 ^ 24) := by omega
  refine .value (v := .slice (some ⟨w.heap.size, 0, none⟩) len len) (w' := w.alloc (.cells (fillL (zerosL (cellsV z) len) (partVals φ l)).toArray el)) ?_ (h3 w.heap.size) ((h.alloc _).put hd trivial rfl)
  simp only [execOp, ho, Instr.buildSlice, Sem.run_bind, run_underlying ht, Result.andThen_ok, sizeOf, typeInfo, run_program, hi, Sem.run_pure, his, hlist]
  rw [if_neg hn]
  by_cases hl0 : len * sz = 0
  · have : len = 0 := by rcases Nat.mul_eq_zero.1 hl0 with h | h <;> omega
    subst this
    simp only [zerosL] at hfill
    simp only [Nat.zero_mul, if_true, pure_bind]
    have e : (Array.range 0).map (fun i => (#[] : Array Value)[i % (#[] : Array Value).size]!) = ([] : List Value).toArray := by simp
    rw [e, hfill]
    rfl
  · rw [if_neg hl0]
    rw [← hzs] at hl0 ⊢
    simp only [zeroValue, typeInfo, Sem.run_bind, run_program, Result.andThen_ok, hi, Sem.run_pure, hiz, cells_eq, hmade]
    rw [hzs, hfill]
    rfl

theorem ok_mk {t el : TypeId} {z : Value} {i : TypeInfo} {x y : Operand} (h : St n Γr Γm w0 φ Γ a w) (hd : ∀ t, o.dst = some t → t < n)
    (ht : P.underlying t = some (.slice el)) (hi : P.info? el = some i) (hz : i.zero = some z) (h0 : 0 < i.size) (hby : 0 < i.bytes) (hzs : (cellsV z).length = i.size) (ho : o.op = .makeSlice t x y)
    (hv : effV P Γr φ Γ o.dst (.mk el i.size i.bytes z x y) k) : Acts P n Γr Γm w0 o a w k := by
  simp only [effV] at hv
  split at hv
  · rename_i m p hx hy
    obtain ⟨h1, h12, h2, h3⟩ := hv
    have e1 := eval_of h.fits x (by rw [hx])
    have e2 := eval_of h.fits y (by rw [hy])
    rw [hx] at e1
    rw [hy] at e2
    refine .value (v := .slice (some ⟨w.heap.size, 0, none⟩) m.toNat p.toNat) (w' := w.alloc (.cells (zerosL (cellsV z) p.toNat).toArray el)) ?_ (h3 w.heap.size) ((h.alloc _).put hd trivial rfl)
    have hr := run_make (P := P) w t el i z ht hi hz .i64 .i64 m p h1 h12 (by rw [Int.mul_comm]; omega) (by
      have hm1 : p * 1 ≤ p * (i.bytes : Int) := Int.mul_le_mul_of_nonneg_left (by omega) (by omega)
      omega)
    have hm : madeCells z.cells (p.toNat * i.size) = (zerosL (cellsV z) p.toNat).toArray := by
      rw [← hzs, cells_eq]
      exact zerosL_made (cellsV z) (by omega) p.toNat
    rw [hm] at hr
    simp only [execOp, ho, e1, e2, Sem.run_bind, hr, Result.andThen_ok, Sem.run_pure]
  · exact hv.elim

/-- one block of one heap of the call's own has changed -/
theorem St.changed (h : St n Γr Γm w0 φ Γ a w) {i b : Nat} {g : PH} {p q : Obj} (hi : Γ[i]? = some g) (hgb : g b = some p) (hset : w'.heap[b]? = some q)
    (hos : w'.os = w.os) (htape : w'.tape = w.tape) (hout : w'.output = w.output) (hsize : w.heap.size ≤ w'.heap.size)
    (hsame : ∀ k, k < w.heap.size → k ≠ b → w'.heap[k]? = w.heap[k]?) : St n Γr Γm w0 φ (Γ.set i (upd g b q)) a w' := by
  have hg : g ∈ Γ := List.mem_of_getElem? hi
  have hlt : i < Γ.length := by
    rcases Nat.lt_or_ge i Γ.length with h | h
    · exact h
    · rw [List.getElem?_eq_none h] at hi; cases hi
  have hgi : Γ[i] = g := by rw [List.getElem?_eq_getElem hlt] at hi; exact Option.some.inj hi
  -- the other heaps do not have the block
  have hap := h.sat.apart
  have hothers : ∀ j, j ≠ i → ∀ x, (Γ ++ Γr)[j]? = some x → x b = none := by
    intro j hj x hx
    have hi' : (Γ ++ Γr)[i]? = some g := by rw [List.getElem?_append_left hlt]; exact hi
    have hd : Disj g x := by
      rw [List.pairwise_iff_getElem] at hap
      have hjl : j < (Γ ++ Γr).length := by
        rcases Nat.lt_or_ge j (Γ ++ Γr).length with h | h
        · exact h
        · rw [List.getElem?_eq_none h] at hx; cases hx
      have hil : i < (Γ ++ Γr).length := by simp; omega
      rw [List.getElem?_eq_getElem hjl] at hx
      rw [List.getElem?_eq_getElem hil] at hi'
      rcases Nat.lt_or_gt_of_ne hj with q | q
      · have := hap j i hjl hil q
        rw [Option.some.inj hx, Option.some.inj hi'] at this
        exact this.symm
      · have := hap i j hil hjl q
        rw [Option.some.inj hx, Option.some.inj hi'] at this
        exact this
    rcases hd b with q | q
    · rw [hgb] at q; cases q
    · exact q
  have hlist : Γ.set i (upd g b q) ++ Γr = (Γ ++ Γr).set i (upd g b q) := by rw [List.set_append, if_pos hlt]
  have hmem : ∀ x ∈ (Γ ++ Γr).set i (upd g b q), x = upd g b q ∨ (x ∈ Γ ++ Γr ∧ x b = none) := by
    intro x hx
    obtain ⟨j, hj, hjx⟩ := List.mem_iff_getElem.1 hx
    have hx' : ((Γ ++ Γr).set i (upd g b q))[j]? = some x := by rw [List.getElem?_eq_getElem hj, hjx]
    by_cases e : j = i
    · subst e
      left
      rw [List.getElem?_set_self (by simpa using hj)] at hx'
      exact (Option.some.inj hx').symm
    · rw [List.getElem?_set_ne (fun q => e q.symm)] at hx'
      exact .inr ⟨List.mem_of_getElem? hx', hothers j e x hx'⟩
  refine h.step ?_ ?_ hos htape hout hsize ?_
  · rw [hlist]
    refine ⟨?_, ?_⟩
    · intro x hx k p' hk
      rcases hmem x hx with rfl | ⟨hx', hxb⟩
      · unfold upd at hk
        split at hk
        · rename_i e; subst e; rw [hset]; exact hk
        · rename_i e
          have := h.sat.lt (g := g) (by simp [hg]) (k := k) (by rw [hk]; simp)
          rw [hsame k this e]
          exact h.sat.holds g (by simp [hg]) k p' hk
      · have hne : k ≠ b := fun e => by subst e; rw [hxb] at hk; cases hk
        have := h.sat.lt hx' (k := k) (by rw [hk]; simp)
        rw [hsame k this hne]
        exact h.sat.holds x hx' k p' hk
    · rw [List.pairwise_iff_getElem] at hap ⊢
      intro j l hj hl hjl k
      simp only [List.length_set] at hj hl
      have hu : ∀ k, upd g b q k = none ↔ g k = none := by
        intro k
        unfold upd
        by_cases e : k = b
        · subst e; simp [hgb]
        · simp [e]
      have hgi2 : (Γ ++ Γr)[i]'(by simp; omega) = g := by rw [List.getElem_append_left hlt]; exact hgi
      by_cases e1 : i = j
      · subst e1
        rw [List.getElem_set_self, List.getElem_set_ne (by omega)]
        have := hap i l hj hl hjl k
        rw [hgi2] at this
        rw [hu]
        exact this
      · by_cases e2 : i = l
        · subst e2
          rw [List.getElem_set_self, List.getElem_set_ne (by omega)]
          have := hap j i hj hl hjl k
          rw [hgi2] at this
          rw [hu]
          exact this
        · rw [List.getElem_set_ne e1, List.getElem_set_ne e2]
          exact hap j l hj hl hjl k
  · intro x hx k hk
    right
    obtain ⟨j, hj, hjx⟩ := List.mem_iff_getElem.1 hx
    by_cases e : i = j
    · subst e
      rw [List.getElem_set_self] at hjx
      subst hjx
      refine ⟨g, hg, ?_⟩
      unfold upd at hk
      split at hk
      · rename_i e; subst e; rw [hgb]; simp
      · exact hk
    · rw [List.getElem_set_ne e] at hjx
      simp only [List.length_set] at hj
      exact ⟨x, hjx ▸ List.getElem_mem hj, hk⟩
  · intro k hk hno
    refine hsame k hk (fun e => ?_)
    subst e
    have := hno g hg
    rw [hgb] at this
    cases this

/-! stores -/
theorem getElem?_setC (cs : List Value) (off m : Nat) (x : Value) (hl : (cellsV x).length = m) (hle : off + m ≤ cs.length) : (setC cs off m x).length = cs.length := by
  simp only [setC, List.length_append, List.length_take, List.length_drop, hl]
  omega

theorem look_updBox (φ : Fr) (s : Nat) (cs : List Value) : ∀ t, look (updBox φ s cs) t = (if t = s then (match look φ s with | .box b T _ => .box b T cs | x => x) else look φ t) := by
  induction φ with
  | nil => intro t; by_cases h : t = s <;> simp [updBox, look, h]
  | cons p r ih =>
    obtain ⟨k, x⟩ := p
    intro t
    by_cases hk : k = s
    · subst hk
      by_cases ht : t = k
      · subst ht
        cases x <;> simp [updBox, look]
      · have hne : (k == t) = false := by simp; exact fun h => ht h.symm
        cases x <;> simp [updBox, look, hne, ht]
    · have hks : (k == s) = false := by simpa using hk
      by_cases ht : t = s
      · subst ht
        simp [updBox, look, hks, ih]
      · by_cases hkt : k = t
        · subst hkt; simp [updBox, look, hks, ht]
        · have hne : (k == t) = false := by simpa using hkt
          simp [updBox, look, hks, hne, ih, ht]

theorem run_storeAt {t : TypeId} {m b off : Nat} {cells : Array Value} {T : TypeId} {x : Value} (hs : szOf P t = some m) (hl : (cellsV x).length = m) (h1 : one' (cellsV x))
    (hb : w.heap[b]? = some (.cells cells T (0, 0))) (hle : off + m ≤ cells.size) :
    (Instr.storeAt t (.pointer (some ⟨b, off, none⟩)) x).run P w = .ok () (w.setRow b (setC cells.toList off m x).toArray) := by
  obtain ⟨_, i, hi, his⟩ := szOf_some hs
  have hst := run_storeCells_at P b off T (cellsV x) 0 cells w hb (by omega) h1
  have hsz : x.cells.size = m := by rw [cells_eq]; simpa using hl
  simp only [Instr.storeAt, Instr.sureAddr, storeVar, sizeOf, typeInfo, Sem.run_bind, Sem.run_pure, Result.andThen_ok, run_program, hi, his]
  rw [if_neg (by simp [hsz])]
  simp only [Sem.run_pure, Result.andThen_ok, cells_eq]
  simp only [Nat.add_zero] at hst
  rw [hst]
  simp [setC, hl]

theorem setRow_old (w : World) (g : Nat) (cur : Array Value) {k : Nat} (hk : k ≠ g) : (w.setRow g cur).heap[k]? = w.heap[k]? := by
  exact setRow_other w g k cur hk
theorem ok_store {t : TypeId} {m : Nat} {x y : Operand} (h : St n Γr Γm w0 φ Γ a w) (hd : o.dst = none) (hs : szOf P t = some m)
    (ho : o.op = .store t x y) (hv : effV P Γr φ Γ o.dst (.store m x y) k) : Acts P n Γr Γm w0 o a w k := by
  simp only [effV] at hv
  obtain ⟨h4, h1, h2, h3, hv⟩ := hv
  have ey := eval_of h.fits y h1
  have hput : ∀ v, a.put o.dst v = a := fun v => by rw [hd]; rfl
  split at hv
  · rename_i e' s b off hx
    have ex := (addr_of h.fits (e := true) (fun _ => h4) rfl).1 _ _ _ _ hx
    split at hv
    · rename_i b' T cs hl
      obtain ⟨rfl, h5, h6⟩ := hv
      obtain ⟨hb, hb2, hb3⟩ := h.bx _ _ _ _ hl
      have hr := run_storeAt (P := P) hs h2 h3 hb (by simpa using h5)
      refine .unit (w' := w.setRow b' (setC cs off m (val φ y).2).toArray) ?_ h6 ?_
      · simp only [execOp, ho, ex, ey, Sem.run_bind, hr]; rfl
      · rw [hput]
        have hlt : b' < w.heap.size := (Array.getElem?_eq_some_iff.1 hb).1
        have hset := setRow_heap w b' cs.toArray (setC cs off m (val φ y).2).toArray T (0, 0) hb
        refine { n := h.n, defers := h.defers, fits := ?_, bx := ?_, bxd := ?_, sat := ?_, own := h.own, os := h.os, tape := h.tape, output := h.output, size := ?_, same := ?_ }
        · intro t'
          rw [look_updBox]
          by_cases e : t' = s
          · subst e
            have := h.fits t'
            rw [hl] at this
            simp only [if_true, hl]
            exact this
          · rw [if_neg e]; exact h.fits t'
        · intro t' b T' cs' hl'
          rw [look_updBox] at hl'
          by_cases e : t' = s
          · subst e
            simp only [if_true, hl, Sl.box.injEq] at hl'
            obtain ⟨rfl, rfl, rfl⟩ := hl'
            exact ⟨hset, hb2, hb3⟩
          · rw [if_neg e] at hl'
            have hne : b ≠ b' := fun q => by subst q; exact e (h.bxd _ _ _ _ _ _ _ hl' hl)
            obtain ⟨q1, q2, q3⟩ := h.bx _ _ _ _ hl'
            exact ⟨by rw [setRow_old w b' _ hne]; exact q1, q2, q3⟩
        · intro t1 t2 b T1 cs1 T2 cs2 hl1 hl2
          have key : ∀ t' b T' cs', look (updBox φ s (setC cs off m (val φ y).2)) t' = .box b T' cs' → ∃ cs'', look φ t' = .box b T' cs'' := by
            intro t' b T' cs' hl'
            rw [look_updBox] at hl'
            by_cases e : t' = s
            · subst e
              simp only [if_true, hl, Sl.box.injEq] at hl'
              obtain ⟨rfl, rfl, rfl⟩ := hl'
              exact ⟨_, hl⟩
            · rw [if_neg e] at hl'; exact ⟨_, hl'⟩
          obtain ⟨c1, q1⟩ := key _ _ _ _ hl1
          obtain ⟨c2, q2⟩ := key _ _ _ _ hl2
          exact h.bxd _ _ _ _ _ _ _ q1 q2
        · refine ⟨fun g hg k' p hk' => ?_, h.sat.apart⟩
          have hne : k' ≠ b' := fun q => by subst q; rw [hb3 g hg] at hk'; cases hk'
          rw [setRow_old w b' _ hne]
          exact h.sat.holds g hg k' p hk'
        · simp only [World.setRow]
          have := h.size
          simpa using this
        · intro k' hk' hm
          have hne : k' ≠ b' := by omega
          rw [setRow_old w b' _ hne]
          exact h.same k' hk' hm
    · exact hv.elim
  · rename_i ex' b off hx
    obtain ⟨i, g, cells, T, hi, hgb, h5, h6⟩ := hv
    have ex := (addr_of h.fits (e := true) (fun _ => h4) rfl).2 _ _ hx
    have hg : g ∈ Γ := List.mem_of_getElem? hi
    have hb := h.sat.holds g (by simp [hg]) b _ hgb
    have hr := run_storeAt (P := P) hs h2 h3 hb h5
    have hset := setRow_heap w b cells (setC cells.toList off m (val φ y).2).toArray T (0, 0) hb
    refine .unit (w' := w.setRow b (setC cells.toList off m (val φ y).2).toArray) ?_ h6 ?_
    · simp only [execOp, ho, ex, ey, Sem.run_bind, hr]; rfl
    · rw [hput]
      exact h.changed hi hgb hset rfl rfl rfl (by simp [World.setRow]) (fun k' _ hne => setRow_old w b _ hne)
  · exact hv.elim
end
end Go.Proofs.Ytniobbepliknmaa.V
