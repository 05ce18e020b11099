/- The symbolic walk is sound: the state that it speaks of, and operations that ask something of memory; no condition. -/
import Derived.Test.YtniobbepliknmaaVc
namespace Go.Proofs.Ytniobbepliknmaa.V
open Go
set_option linter.unusedVariables false
set_option linter.unusedSimpArgs false

structure St (n : Nat) (Γr Γm : Ctx) (w0 : World) (φ : Fr) (Γ : Ctx) (a : Act) (w : World) : Prop where
  n : a.tmps.size = n
  defers : a.defers = []
  fits : Fits φ a
  bx : ∀ t b T cs, look φ t = .box b T cs → w.heap[b]? = some (.cells cs.toArray T (0, 0)) ∧ w0.heap.size ≤ b ∧ ∀ h ∈ Γ ++ Γr, h b = none
  bxd : ∀ t t' b T cs T' cs', look φ t = .box b T cs → look φ t' = .box b T' cs' → t = t'
  sat : Sat (Γ ++ Γr) w
  own : ∀ h ∈ Γ, ∀ k, h k ≠ none → w0.heap.size ≤ k ∨ ∃ g ∈ Γm, g k ≠ none
  os : w.os = w0.os
  tape : w.tape = w0.tape
  output : w.output = w0.output
  size : w0.heap.size ≤ w.heap.size
  same : ∀ k, k < w0.heap.size → (∀ g ∈ Γm, g k = none) → w.heap[k]? = w0.heap[k]?

theorem getD_put (a : Act) (d t : Nat) (v : Value) (hd : d < a.tmps.size) : (a.put (some d) v).tmps.getD t undef = if d = t then v else a.tmps.getD t undef := by
  simp only [Act.put, Array.getD_eq_getD_getElem?, Array.getElem?_setIfInBounds]
  by_cases h : d = t
  · subst h; simp [hd]
  · simp [h]

theorem look_cons (d : Nat) (x : Sl) (φ : Fr) (t : Nat) : look ((d, x) :: φ) t = if d = t then x else look φ t := by
  simp only [look]
  by_cases h : d = t
  · subst h; simp
  · have : (d == t) = false := by simpa using h
    simp [this, h]

section
variable {n : Nat} {Γr Γm : Ctx} {w0 : World} {φ : Fr} {Γ : Ctx} {a : Act} {w : World}

/-- one slot more, that is no box -/
theorem St.put (h : St n Γr Γm w0 φ Γ a w) {d : Option Nat} (hd : ∀ t, d = some t → t < n) {x : Sl} {v : Value} (hx : notBox x) (hf : FitsSl x v) :
    St n Γr Γm w0 (V.put φ d x) Γ (a.put d v) w := by
  cases d with
  | none => exact h
  | some d =>
    have hlt : d < a.tmps.size := by rw [h.n]; exact hd d rfl
    refine { h with n := by simp [Act.put, h.n], defers := h.defers, fits := ?_, bx := ?_, bxd := ?_ }
    · intro t
      simp only [V.put]
      rw [look_cons, getD_put a d t v hlt]
      by_cases e : d = t
      · simp [e, hf]
      · simp only [e, if_false]; exact h.fits t
    · intro t b T cs hl
      simp only [V.put] at hl
      rw [look_cons] at hl
      by_cases e : d = t
      · rw [if_pos e] at hl; subst hl; exact hx.elim
      · rw [if_neg e] at hl; exact h.bx t b T cs hl
    · intro t t' b T cs T' cs' hl hl'
      simp only [V.put] at hl hl'
      rw [look_cons] at hl hl'
      by_cases e : d = t
      · rw [if_pos e] at hl; subst hl; exact hx.elim
      · by_cases e' : d = t'
        · rw [if_pos e'] at hl'; subst hl'; exact hx.elim
        · rw [if_neg e] at hl; rw [if_neg e'] at hl'; exact h.bxd _ _ _ _ _ _ _ hl hl'

theorem Cells.cell {b o : Nat} {vs : List Value} (h : Cells Γ b o vs) (hs : Sat Γ w) : ∀ j v, vs[j]? = some v → w.cell? ((⟨b, o, none⟩ : Addr).add j) = some v := by
  obtain ⟨g, hg, cells, T, fr, hb, hc⟩ := h
  intro j v hv
  have hlt : j < vs.length := by
    rcases Nat.lt_or_ge j vs.length with h | h
    · exact h
    · rw [List.getElem?_eq_none h] at hv; cases hv
  have hadd : (⟨b, o, none⟩ : Addr).add j = ⟨b, o + j, none⟩ := by
    unfold Addr.add
    split
    · rename_i h0; subst h0; rfl
    · rfl
  rw [hadd]
  simp only [World.cell?, hs.holds g hg b _ hb]
  rw [if_neg (by simp), hc j hlt, hv]

theorem mkv_run {P : Program} {t : TypeId} {m : Nat} {ad : Addr} {vs : List Value} (hs : szOf P t = some m) (hl : vs.length = m) (h1 : isTiny P t = false → m = 1)
    (hc : ∀ j v, vs[j]? = some v → w.cell? (ad.add j) = some v) : (Instr.loadAt t (.pointer (some ad))).run P w = .ok (mkv (isTiny P t) vs) w := by
  obtain ⟨hu, i, hi, his⟩ := szOf_some hs
  have hag := run_isAgg (P := P) w t hu
  simp only [Instr.loadAt, Instr.sureAddr, loadVar, Sem.run_bind, Sem.run_pure, Result.andThen_ok, hag]
  cases ht : isTiny P t with
  | true =>
    have hr := run_loadCells_list (P := P) w ad vs hc
    rw [hl, ← his] at hr
    simp [sizeOf, typeInfo, hi, hr, mkv]
  | false =>
    have := h1 ht
    match vs, hl with
    | [v], _ =>
      have h0 := hc 0 v rfl
      rw [show ad.add 0 = ad from by simp [Addr.add]] at h0
      simp [h0, mkv]
    | [], hl => simp at hl; omega
    | _ :: _ :: _, hl => simp at hl; omega

/-- what an operation that asks yields -/
def Asks (P : Program) (n : Nat) (Γr Γm : Ctx) (w0 : World) (φ : Fr) (Γ : Ctx) (e : Bool) (o : Oper) (k : Sl → Prop) : Prop :=
  ∃ sl, k sl ∧ notBox sl ∧ (e = false → FitsSl sl undef) ∧ (e = true → ∀ a w, St n Γr Γm w0 φ Γ a w → ∃ v, (execOp a.eval o).run P w = .ok (.value v) w ∧ FitsSl sl v)
theorem Asks.v {P : Program} {e : Bool} {o : Oper} {k : Sl → Prop} {x : Value} (hk : k (.v e x))
    (h : e = true → ∀ a w, St n Γr Γm w0 φ Γ a w → (execOp a.eval o).run P w = .ok (.value x) w) : Asks P n Γr Γm w0 φ Γ e o k :=
  ⟨.v e x, hk, trivial, fun he => by subst he; rfl, fun he a w hs => ⟨x, h he a w hs, by subst he; rfl⟩⟩
theorem Asks.r {P : Program} {e : Bool} {o : Oper} {k : Sl → Prop} {s b off : Nat} (hk : k (.ref e s b off))
    (h : e = true → ∀ a w, St n Γr Γm w0 φ Γ a w → (execOp a.eval o).run P w = .ok (.value (.pointer (some ⟨b, off, none⟩))) w) : Asks P n Γr Γm w0 φ Γ e o k :=
  ⟨.ref e s b off, hk, trivial, fun he => by subst he; rfl, fun he a w hs => ⟨_, h he a w hs, by subst he; rfl⟩⟩

variable {P : Program} {e : Bool} {o : Oper} {k : Sl → Prop}

theorem ok_idiv {op : BinOp} {t yt : TypeId} {x y : Operand} (ho : o.op = .binOp op t x y yt) (hv : askV P (Γ ++ Γr) φ e (.idiv op x y) k) : Asks P n Γr Γm w0 φ Γ e o k := by
  simp only [askV] at hv
  split at hv
  · rename_i ex kx a ey ky b hx hy
    obtain ⟨h1, rfl, h2, h4⟩ := hv
    refine Asks.v h4 fun he ac w h => ?_
    obtain ⟨q1, q2, q3⟩ := h2 he
    have e1 := eval_of h.fits x (by rw [hx]; exact q1)
    have e2 := eval_of h.fits y (by rw [hy]; exact q2)
    rw [hx] at e1
    rw [hy] at e2
    simp only [execOp, ho, e1, e2]
    have := run_idiv (P := P) w op t x y kx a b h1 q3
    simp only [Sem.run_bind] at this ⊢
    simp [this]
  · exact hv.elim

theorem ok_ishift {op : BinOp} {t yt : TypeId} {x y : Operand} (ho : o.op = .binOp op t x y yt) (hv : askV P (Γ ++ Γr) φ e (.ishift op x y) k) : Asks P n Γr Γm w0 φ Γ e o k := by
  simp only [askV] at hv
  split at hv
  · rename_i ex kx a ey ky b hx hy
    obtain ⟨h1, h2, h4⟩ := hv
    refine Asks.v h4 fun he ac w h => ?_
    obtain ⟨q1, q2, q3⟩ := h2 he
    have e1 := eval_of h.fits x (by rw [hx]; exact q1)
    have e2 := eval_of h.fits y (by rw [hy]; exact q2)
    rw [hx] at e1
    rw [hy] at e2
    simp only [execOp, ho, e1, e2]
    have := run_ishift (P := P) w op t x y kx ky a b h1 q3
    simp only [Sem.run_bind] at this ⊢
    simp [this]
  · exact hv.elim

theorem add_mk (b o j : Nat) : (⟨b, o, none⟩ : Addr).add j = ⟨b, o + j, none⟩ := by
  unfold Addr.add
  split
  · rename_i h0; subst h0; rfl
  · rfl

theorem ok_idx {t el : TypeId} {sz : Nat} {x i : Operand} (ht : P.underlying t = some (.slice el)) (hs : szOf P el = some sz)
    (ho : o.op = .indexAddr t x i) (hv : askV P (Γ ++ Γr) φ e (.idx sz x i) k) : Asks P n Γr Γm w0 φ Γ e o k := by
  obtain ⟨_, ti, hi, his⟩ := szOf_some hs
  simp only [askV] at hv
  split at hv
  · rename_i ex A m cap ei ki j hx hj
    obtain ⟨b, off, h2, h4⟩ := hv
    refine Asks.v h4 fun he ac w h => ?_
    obtain ⟨q1, q2, rfl, q3, q4⟩ := h2 he
    have e1 := eval_of h.fits x (by rw [hx]; exact q1)
    have e2 := eval_of h.fits i (by rw [hj]; exact q2)
    rw [hx] at e1
    rw [hj] at e2
    simp only [execOp, ho, e1, e2, Instr.indexAt, asIntOf, Sem.run_bind, Sem.run_pure, Result.andThen_ok, run_underlying ht]
    rw [if_pos ⟨q3, q4⟩]
    simp [sizeOf, typeInfo, hi, his, add_mk]
  · exact hv.elim

theorem ok_idxA {t el : TypeId} {len sz : Nat} {x i : Operand} (ht : P.underlying t = some (.array len el)) (hs : szOf P el = some sz) (hlen : 1 < len)
    (ho : o.op = .indexAddr t x i) (hv : askV P (Γ ++ Γr) φ e (.idxA len sz x i) k) : Asks P n Γr Γm w0 φ Γ e o k := by
  obtain ⟨_, ti, hi, his⟩ := szOf_some hs
  have key : ∀ (a : Act) (w : World) (b off : Nat) (ki : IntKind) (j : Int), a.eval x = .pointer (some ⟨b, off, none⟩) → a.eval i = .int ki j → 0 ≤ j → j < len →
      (execOp a.eval o).run P w = .ok (.value (.pointer (some ⟨b, off + j.toNat * sz, none⟩))) w := by
    intro a w b off ki j e1 e2 q3 q4
    simp only [execOp, ho, e1, e2, Instr.indexAt, asIntOf, Sem.run_bind, Sem.run_pure, Result.andThen_ok, run_underlying ht, Instr.sureAddr]
    rw [if_pos ⟨q3, q4⟩]
    simp [sizeOf, typeInfo, hi, his, add_mk]
  simp only [askV] at hv
  split at hv
  · rename_i e' s b off ei ki j hx hj
    obtain ⟨h2, h4⟩ := hv
    refine Asks.r h4 fun he ac w h => ?_
    obtain ⟨q1, q2, q3, q4⟩ := h2 he
    have e1 := (addr_of h.fits (fun _ => q1) he).1 _ _ _ _ hx
    have e2 := eval_of h.fits i (by rw [hj]; exact q2)
    rw [hj] at e2
    exact key ac w b off ki j e1 e2 q3 q4
  · rename_i e' b off ei ki j hx hj
    obtain ⟨h2, h4⟩ := hv
    refine Asks.v h4 fun he ac w h => ?_
    obtain ⟨q1, q2, q3, q4⟩ := h2 he
    have e1 := (addr_of h.fits (fun _ => q1) he).2 _ _ hx
    have e2 := eval_of h.fits i (by rw [hj]; exact q2)
    rw [hj] at e2
    exact key ac w b off ki j e1 e2 q3 q4
  · exact hv.elim

theorem ok_load {t : TypeId} {m : Nat} {x : Operand} (hs : szOf P t = some m)
    (ho : o.op = .load t x) (hv : askV P (Γ ++ Γr) φ e (.load (isTiny P t) m x) k) : Asks P n Γr Γm w0 φ Γ e o k := by
  simp only [askV] at hv
  split at hv
  · rename_i e' s b off hx
    split at hv
    · rename_i b' T cs hl
      obtain ⟨rfl, q1, q2, q3, h4⟩ := hv
      refine Asks.v h4 fun he ac w h => ?_
      have e1 := (addr_of h.fits q1 he).1 _ _ _ _ hx
      obtain ⟨hb, _, _⟩ := h.bx _ _ _ _ hl
      have hc : ∀ j v, ((cs.drop off).take m)[j]? = some v → w.cell? ((⟨b', off, none⟩ : Addr).add j) = some v := by
        intro j v hv
        rw [add_mk]
        simp only [World.cell?, hb]
        rw [if_neg (by simp)]
        rw [List.getElem?_take] at hv
        split at hv
        · simpa using hv
        · cases hv
      simp only [execOp, ho, e1, Sem.run_bind]
      rw [mkv_run hs (by simp; omega) q3 hc]
      rfl
    · exact hv.elim
  · rename_i e' b off hx
    obtain ⟨q3, vs, hl, h2, h4⟩ := hv
    refine Asks.v h4 fun he ac w h => ?_
    obtain ⟨q1, q2⟩ := h2 he
    have e1 := (addr_of h.fits (fun _ => q1) he).2 _ _ hx
    simp only [execOp, ho, e1, Sem.run_bind]
    rw [mkv_run hs hl q3 (q2.cell h.sat)]
    rfl
  · exact hv.elim

theorem ok_slc {t el : TypeId} {sz : Nat} {x : Operand} {lo hi : Option Operand} (ht : P.underlying t = some (.slice el)) (hs : szOf P el = some sz)
    (ho : o.op = .slice t x lo hi none) (hv : askV P (Γ ++ Γr) φ e (.slc sz x lo hi none) k) : Asks P n Γr Γm w0 φ Γ e o k := by
  obtain ⟨_, ti, hti, his⟩ := szOf_some hs
  simp only [askV] at hv
  split at hv
  · rename_i ex A m cap hx
    obtain ⟨l, hh, h2, h4⟩ := hv
    refine Asks.v h4 fun he ac w h => ?_
    obtain ⟨q1, q2, q3, q4, q5⟩ := h2 he
    have e1 := eval_of h.fits x (by rw [hx]; exact q1)
    rw [hx] at e1
    have hsz : (sizeOf el).run P w = .ok sz w := by simp [sizeOf, typeInfo, hti, his]
    have hhi : ∀ (W : World), (match hi.map ac.eval with | some v => Instr.sliceBound v cap .sliceAcap | none => pure m : Sem Nat).run P W = .ok hh W := by
      intro W
      cases hi with
      | none => simp [bnd] at q3; subst q3; rfl
      | some y =>
        obtain ⟨q6, ki, q7⟩ := q3
        have e2 := eval_of h.fits y q6
        simp only [Option.map_some, e2, q7, Instr.sliceBound, asIntOf, Sem.run_bind, Sem.run_pure, Result.andThen_ok]
        rw [if_pos ⟨by omega, by omega⟩]
        simp
    have hlo : ∀ (W : World), (match lo.map ac.eval with | some v => Instr.sliceBound v hh .sliceB | none => pure 0 : Sem Nat).run P W = .ok l W := by
      intro W
      cases lo with
      | none => simp [bnd] at q2; subst q2; rfl
      | some y =>
        obtain ⟨q6, ki, q7⟩ := q2
        have e2 := eval_of h.fits y q6
        simp only [Option.map_some, e2, q7, Instr.sliceBound, asIntOf, Sem.run_bind, Sem.run_pure, Result.andThen_ok]
        rw [if_pos ⟨by omega, by omega⟩]
        simp
    have hb : (Instr.sliceBounds true m cap (lo.map ac.eval) (hi.map ac.eval) none).run P w = .ok (l, hh, cap) w := by
      have h1 := hhi w
      have h2 := hlo w
      unfold Instr.sliceBounds
      cases hi <;> cases lo <;> simp_all
    simp only [execOp, ho, e1, Instr.sliceAt, Instr.slice, Sem.run_bind, run_underlying ht, Result.andThen_ok, Option.map_none, hb, hsz, Sem.run_pure]
  · exact hv.elim
theorem ok_q {c : Qk} {xs : List Operand} (hx : ∀ (a : Act) (w w' : World) (r : Value), (qsem c (xs.map a.eval)).run P w = .ok r w' → (execOp a.eval o).run P w = .ok (.value r) w')
    (hv : askV P (Γ ++ Γr) φ e (.q c xs) k) : Asks P n Γr Γm w0 φ Γ e o k := by
  obtain ⟨r, h1, h2⟩ := hv
  refine Asks.v h2 fun he ac w h => ?_
  obtain ⟨q1, q2⟩ := h1 he
  refine hx ac w w r ?_
  rw [vals_of h.fits rfl xs q1]
  exact q2 w h.sat.holds

end
end Go.Proofs.Ytniobbepliknmaa.V
