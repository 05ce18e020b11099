/- Operations whose order is drawn may be gone through in one order; no condition. -/
import Derived.Test.YtniobbepliknmaaVg
import Derived.Orders
namespace Go.Proofs.Ytniobbepliknmaa.V
open Go
set_option linter.unusedVariables false
set_option linter.unusedSimpArgs false

/-- what an operand sees of a slot -/
def bare : Sl → Sl
  | .box b T _ => .box b T []
  | x => x
def SameOn (S : List Nat) (φ ψ : Fr) : Prop := ∀ t ∈ S, bare (look ψ t) = bare (look φ t)
def LookEq (φ ψ : Fr) : Prop := ∀ t, look φ t = look ψ t
def Ext (K : Fr → Ctx → Prop) : Prop := ∀ φ ψ Γ, LookEq φ ψ → K φ Γ → K ψ Γ

theorem bare_val (x : Sl) : (bare x).val = x.val := by cases x <;> rfl
theorem val_same {φ ψ : Fr} {x : Operand} (h : SameOn (rdO x) φ ψ) : val ψ x = val φ x := by
  cases x with
  | tmp t =>
    simp only [val]
    rw [← bare_val, h t (by simp [rdO]), bare_val]
  | _ => rfl
theorem slotOf_same {φ ψ : Fr} {e : Bool} {x : Operand} (h : SameOn (rdO x) φ ψ) : slotOf ψ e x = slotOf φ e x := by
  cases x with
  | tmp t =>
    have := h t (by simp [rdO])
    simp only [slotOf]
    cases h1 : look φ t <;> cases h2 : look ψ t <;> simp_all [bare]
  | _ => rfl
theorem gd_same {φ ψ : Fr} {g : Option (Nat × Bool)} (h : SameOn (rdG g) φ ψ) : gd ψ g = gd φ g := by
  cases g with
  | none => rfl
  | some g =>
    obtain ⟨t, want⟩ := g
    have := h t (by simp [rdG])
    simp only [gd]
    cases h1 : look φ t <;> cases h2 : look ψ t <;> simp_all [bare]
theorem SameOn.left {S T : List Nat} {φ ψ : Fr} (h : SameOn (S ++ T) φ ψ) : SameOn S φ ψ := fun t ht => h t (by simp [ht])
theorem SameOn.right {S T : List Nat} {φ ψ : Fr} (h : SameOn (S ++ T) φ ψ) : SameOn T φ ψ := fun t ht => h t (by simp [ht])
theorem vals_same {φ ψ : Fr} : ∀ {l : List Operand}, SameOn (rdL l) φ ψ → vals ψ l = vals φ l
  | [], _ => rfl
  | x :: r, h => by simp only [vals]; rw [val_same h.left, vals_same h.right]
theorem allOn_same {φ ψ : Fr} {e : Bool} : ∀ {l : List Operand}, SameOn (rdL l) φ ψ → allOn ψ e l = allOn φ e l
  | [], _ => rfl
  | x :: r, h => by simp only [allOn]; rw [val_same h.left, allOn_same h.right]
theorem partVals_same {φ ψ : Fr} : ∀ {l : List (Nat × Nat × Operand)}, SameOn (rdP l) φ ψ → partVals ψ l = partVals φ l
  | [], _ => rfl
  | (_, _, x) :: r, h => by simp only [partVals]; rw [val_same h.left, partVals_same h.right]
theorem partOn_same {φ ψ : Fr} {e : Bool} : ∀ {l : List (Nat × Nat × Operand)}, SameOn (rdP l) φ ψ → partOn ψ e l = partOn φ e l
  | [], _ => rfl
  | (_, _, x) :: r, h => by simp only [partOn]; rw [val_same h.left, partOn_same h.right]
theorem bnd_same {φ ψ : Fr} {x : Option Operand} {l d : Nat} (h : SameOn (rdB x) φ ψ) : bnd ψ x l d = bnd φ x l d := by
  cases x with
  | none => rfl
  | some y => simp only [bnd]; rw [val_same (x := y) h]

theorem pure_same {φ ψ : Fr} {e : Bool} {op : SOp} {k : Sl → Prop} (h : SameOn (rd op) φ ψ) : pureV ψ e op k = pureV φ e op k := by
  cases op <;> simp only [rd] at h <;> simp only [pureV] <;> try rfl
  case mv x => rw [val_same h, slotOf_same h]
  case pick c a b => rw [val_same h.left, val_same h.right.left, val_same h.right.right]
  case ibin op x y => rw [val_same h.left, val_same h.right]
  case sbin op x y => rw [val_same h.left, val_same h.right]
  case beq n x y => rw [val_same h.left, val_same h.right]
  case nilq kd n x y => rw [val_same h.left, val_same h.right]
  case un op x => rw [val_same h]
  case conv k x => rw [val_same h]
  case fld o x => rw [val_same h, slotOf_same h]
  case nilCheck x => rw [val_same h, slotOf_same h]
  case field a o n x => rw [val_same h]
  case len s x => rw [val_same h]
  case extract i x => rw [val_same h]
  case mkFunc f l => rw [vals_same h, allOn_same h]
  case build t z l => rw [partOn_same h, partVals_same h]
  case fn c l => simp only [vals_same h, allOn_same h]

theorem isBox_slotOf (φ : Fr) (e : Bool) (x : Operand) : isBox (slotOf φ e x) = false := by
  have := slotOf_notBox φ e x
  cases h : slotOf φ e x <;> simp_all [notBox, isBox]

/-- what a pure operation answers -/
theorem pure_split {φ : Fr} {e : Bool} {op : SOp} {k : Sl → Prop} (h : pureV φ e op k) : ∃ s, isBox s = false ∧ k s ∧ ∀ k', k' s → pureV φ e op k' := by
  cases op <;> simp only [pureV] at h ⊢
  case mv x => exact ⟨_, isBox_slotOf _ _ _, h.2, fun k' hk => ⟨h.1, hk⟩⟩
  case pick c a b =>
    split at h
    · obtain ⟨h1, h2, h3, h4⟩ := h; exact ⟨_, rfl, h4, fun k' hk => ⟨h1, h2, h3, hk⟩⟩
    · exact h.elim
  case ibin op x y =>
    split at h
    · obtain ⟨h1, h2, h3, h4, h5⟩ := h; exact ⟨_, rfl, h5, fun k' hk => ⟨h1, h2, h3, h4, hk⟩⟩
    · exact h.elim
  case sbin op x y =>
    split at h
    · obtain ⟨r, h1, h2, h3, h4⟩ := h; exact ⟨_, rfl, h4, fun k' hk => ⟨r, h1, h2, h3, hk⟩⟩
    · exact h.elim
  case beq n x y =>
    split at h
    · obtain ⟨h1, h2, h3⟩ := h; exact ⟨_, rfl, h3, fun k' hk => ⟨h1, h2, hk⟩⟩
    · exact h.elim
  case nilq kd n x y => obtain ⟨h1, h2, r, h3, h4, h5⟩ := h; exact ⟨_, rfl, h5, fun k' hk => ⟨h1, h2, r, h3, h4, hk⟩⟩
  case un op x => obtain ⟨r, h1, h2, h3⟩ := h; exact ⟨_, rfl, h3, fun k' hk => ⟨r, h1, h2, hk⟩⟩
  case conv k x =>
    split at h
    · exact ⟨_, rfl, h.2, fun k' hk => ⟨h.1, hk⟩⟩
    · exact h.elim
  case fld o x =>
    split at h
    · exact ⟨_, rfl, h.2, fun k' hk => ⟨h.1, hk⟩⟩
    · exact ⟨_, rfl, h.2, fun k' hk => ⟨h.1, hk⟩⟩
    · exact h.elim
  case nilCheck x =>
    split at h
    · exact ⟨_, rfl, h.2, fun k' hk => ⟨h.1, hk⟩⟩
    · exact ⟨_, rfl, h.2, fun k' hk => ⟨h.1, hk⟩⟩
    · exact ⟨_, rfl, h.2, fun k' hk => ⟨h.1, hk⟩⟩
    · exact h.elim
  case field a o n x =>
    split at h
    · obtain ⟨h1, h2, h3, h4⟩ := h; exact ⟨_, rfl, h4, fun k' hk => ⟨h1, h2, h3, hk⟩⟩
    · exact h.elim
  case len s x => obtain ⟨r, h1, h2, h3⟩ := h; exact ⟨_, rfl, h3, fun k' hk => ⟨r, h1, h2, hk⟩⟩
  case extract i x =>
    split at h
    · obtain ⟨r, h1, h2, h3⟩ := h; exact ⟨_, rfl, h3, fun k' hk => ⟨r, h1, h2, hk⟩⟩
    · exact h.elim
  case mkFunc f l => exact ⟨_, rfl, h.2, fun k' hk => ⟨h.1, hk⟩⟩
  case build t z l => exact ⟨_, rfl, h.2.2, fun k' hk => ⟨h.1, h.2.1, hk⟩⟩
  case fn c l => obtain ⟨r, h1, h2⟩ := h; exact ⟨_, rfl, h2, fun k' hk => ⟨r, h1, hk⟩⟩
  all_goals exact h.elim

/-- what an asking operation answers; and in another frame and memory that look the same -/
theorem Cells.sub {Γ Γ' : Ctx} {b o : Nat} {vs : List Value} (hc : Cells Γ b o vs) (h : ∀ g ∈ Γ, g ∈ Γ') : Cells Γ' b o vs := by
  obtain ⟨g, hg, r⟩ := hc
  exact ⟨g, h g hg, r⟩
theorem QR.sub {P : Program} {Γ Γ' : Ctx} {c : Qk} {vs : List Value} {r : Value} (hc : QR P c vs Γ r) (h : ∀ g ∈ Γ, g ∈ Γ') : QR P c vs Γ' r :=
  fun w hw => hc w fun g hg => hw g (h g hg)
theorem ask_split {P : Program} {φ : Fr} {Γ : Ctx} {e : Bool} {op : SOp} {k : Sl → Prop} (h : askV P Γ φ e op k) :
    ∃ s, isBox s = false ∧ k s ∧ ∀ ψ Γ', SameOn (rd op) φ ψ → (isLoad op = true → ∀ t, isBox (look φ t) = true → look ψ t = look φ t) → (isLoad op = true → ∀ g ∈ Γ, g ∈ Γ') →
      ∀ k', k' s → askV P Γ' ψ e op k' := by
  cases op <;> simp only [askV] at h ⊢
  case idiv op x y =>
    split at h
    · obtain ⟨h1, h2, h3, h4⟩ := h
      rename_i e1 e2
      refine ⟨_, rfl, h4, fun ψ Γ' hs _ _ k' hk => ?_⟩
      simp only [rd] at hs
      rw [val_same hs.left, val_same hs.right, e1, e2]
      exact ⟨h1, h2, h3, hk⟩
    · exact h.elim
  case ishift op x y =>
    split at h
    · obtain ⟨h1, h2, h4⟩ := h
      rename_i e1 e2
      refine ⟨_, rfl, h4, fun ψ Γ' hs _ _ k' hk => ?_⟩
      simp only [rd] at hs
      rw [val_same hs.left, val_same hs.right, e1, e2]
      exact ⟨h1, h2, hk⟩
    · exact h.elim
  case idx sz x i =>
    split at h
    · obtain ⟨b, o, h1, h4⟩ := h
      rename_i e1 e2
      refine ⟨_, rfl, h4, fun ψ Γ' hs _ _ k' hk => ?_⟩
      simp only [rd] at hs
      rw [val_same hs.left, val_same hs.right, e1, e2]
      exact ⟨b, o, h1, hk⟩
    · exact h.elim
  case idxA len sz x i =>
    split at h
    · rename_i e1 e2
      refine ⟨_, rfl, h.2, fun ψ Γ' hs _ _ k' hk => ?_⟩
      simp only [rd] at hs
      rw [slotOf_same hs.left, val_same hs.right, e1, e2, val_same hs.left]
      exact ⟨h.1, hk⟩
    · rename_i e1 e2
      refine ⟨_, rfl, h.2, fun ψ Γ' hs _ _ k' hk => ?_⟩
      simp only [rd] at hs
      rw [slotOf_same hs.left, val_same hs.right, e1, e2, val_same hs.left]
      exact ⟨h.1, hk⟩
    · exact h.elim
  case load agg n x =>
    split at h
    · rename_i e1
      split at h
      · rename_i e2
        obtain ⟨h1, h2, h3, h4, h5⟩ := h
        refine ⟨_, rfl, h5, fun ψ Γ' hs hb _ k' hk => ?_⟩
        simp only [rd] at hs
        rw [slotOf_same hs, e1, val_same hs]
        simp only [hb rfl _ (by rw [e2]; rfl), e2]
        exact ⟨h1, h2, h3, h4, hk⟩
      · exact h.elim
    · rename_i e1
      obtain ⟨h1, vs, h2, h3, h4⟩ := h
      refine ⟨_, rfl, h4, fun ψ Γ' hs _ hc k' hk => ?_⟩
      simp only [rd] at hs
      rw [slotOf_same hs, e1, val_same hs]
      exact ⟨h1, vs, h2, fun he => ⟨(h3 he).1, (h3 he).2.sub (hc rfl)⟩, hk⟩
    · exact h.elim
  case slc sz x lo hi mx =>
    cases mx with
    | some m => exact h.elim
    | none =>
      simp only at h
      split at h
      · obtain ⟨l, m, h1, h4⟩ := h
        rename_i e1
        refine ⟨_, rfl, h4, fun ψ Γ' hs _ _ k' hk => ?_⟩
        simp only [rd] at hs
        dsimp only
        rw [val_same hs.left, e1]
        refine ⟨l, m, fun he => ?_, hk⟩
        rw [bnd_same hs.right.left, bnd_same hs.right.right]
        exact h1 he
      · exact h.elim
  case q c xs =>
    obtain ⟨r, h1, h2⟩ := h
    refine ⟨_, rfl, h2, fun ψ Γ' hs _ hc k' hk => ?_⟩
    simp only [rd] at hs
    rw [vals_same hs, allOn_same hs]
    exact ⟨r, fun he => ⟨(h1 he).1, (h1 he).2.sub (hc rfl)⟩, hk⟩
  all_goals exact h.elim

theorem look_put (φ : Fr) (d : Option Nat) (x : Sl) (t : Nat) : look (put φ d x) t = if d = some t then x else look φ t := by
  cases d with
  | none => simp [put]
  | some d =>
    simp only [put, look_cons, Option.some.injEq]
theorem look_upd (φ : Fr) (s t : Nat) (cs : List Value) : look (updBox φ s cs) t = if s = t then (match look φ t with | .box b T _ => .box b T cs | x => x) else look φ t := by
  induction φ with
  | nil => simp [updBox, look]
  | cons x r ih =>
    obtain ⟨k, x⟩ := x
    simp only [updBox]
    by_cases hk : k = s
    · subst hk
      simp only [beq_self_eq_true, cond_true]
      by_cases hkt : k = t
      · subst hkt
        cases x <;> simp [look]
      · have : (k == t) = false := by simpa using hkt
        cases x <;> simp [look, this, hkt]
    · have h1 : (k == s) = false := by simpa using hk
      simp only [h1, cond_false, look]
      by_cases hkt : k = t
      · subst hkt
        have : ¬ s = k := fun q => hk q.symm
        simp [this]
      · have h2 : (k == t) = false := by simpa using hkt
        simp only [h2, cond_false, ih]

theorem lookEq_put {φ ψ : Fr} {dx dy : Option Nat} {s x : Sl} (h : LookEq φ (put ψ dx s)) (hd : ∀ d, dx = some d → dy ≠ some d) : LookEq (put φ dy x) (put (put ψ dy x) dx s) := by
  intro t
  rw [look_put, look_put, look_put, h t, look_put]
  by_cases h1 : dy = some t
  · by_cases h2 : dx = some t
    · exact absurd h1 (hd t h2)
    · simp [h1, h2]
  · simp [h1]
theorem sameOn_put {S : List Nat} {φ ψ : Fr} {dx : Option Nat} {s : Sl} (h : LookEq φ (put ψ dx s)) (hS : ∀ d, dx = some d → d ∉ S) : SameOn S φ ψ := by
  intro t ht
  rw [h t, look_put, if_neg (fun q => hS t q ht)]

def After (Γr : Ctx) (dy : Option Nat) (m : Nat) (ψ ψ' : Fr) (Γ Γ' : Ctx) : Prop :=
  (∀ t, dy ≠ some t → bare (look ψ' t) = bare (look ψ t)) ∧ (m ≠ 2 → ∀ t, dy ≠ some t → look ψ' t = look ψ t) ∧ (m = 0 → ∀ g ∈ Γ ++ Γr, g ∈ Γ' ++ Γr)
theorem after_put {Γr : Ctx} {dy : Option Nat} {m : Nat} {ψ : Fr} {x : Sl} {Γ Γ' : Ctx} (h : m = 0 → ∀ g ∈ Γ ++ Γr, g ∈ Γ' ++ Γr) : After Γr dy m ψ (put ψ dy x) Γ Γ' :=
  ⟨fun t ht => by rw [look_put, if_neg ht], fun _ t ht => by rw [look_put, if_neg ht], h⟩
theorem mem_cons' {g h : PH} {Γ Γr : Ctx} (hg : g ∈ Γ ++ Γr) : g ∈ (h :: Γ) ++ Γr := List.mem_cons_of_mem _ hg
theorem cells_cons {h : PH} {Γ : Ctx} {b o : Nat} {vs : List Value} (hc : Cells Γ b o vs) : Cells (h :: Γ) b o vs := by
  obtain ⟨g, hg, r⟩ := hc
  exact ⟨g, by simp [hg], r⟩

theorem eff_move {P : Program} {Γr Γ : Ctx} {φ ψ : Fr} {dx dy : Option Nat} {s : Sl} {op : SOp} {k : Fr → Ctx → Prop} (hrel : LookEq φ (put ψ dx s)) (hs : isBox s = false)
    (hrd : ∀ d, dx = some d → d ∉ rd op) (hdd : ∀ d, dx = some d → dy ≠ some d) (h : effV P Γr φ Γ dy op k) :
    effV P Γr ψ Γ dy op (fun ψ' Γ' => ∃ φ', k φ' Γ' ∧ LookEq φ' (put ψ' dx s) ∧ After Γr dy (modi op) ψ ψ' Γ Γ') := by
  have hsm : SameOn (rd op) φ ψ := sameOn_put hrel hrd
  cases op <;> simp only [rd] at hsm
  case box loc T x =>
    cases loc <;> simp only [effV] at h ⊢ <;> rw [val_same hsm]
    · exact ⟨h.1, h.2.1, fun b => ⟨_, h.2.2 b, lookEq_put hrel hdd, after_put fun _ _ hc => mem_cons' hc⟩⟩
    · exact ⟨h.1, h.2.1, fun b => ⟨_, h.2.2 b, lookEq_put hrel hdd, after_put fun _ _ hc => hc⟩⟩
  case alloc loc T z =>
    cases loc <;> simp only [effV] at h ⊢
    · exact fun b => ⟨_, h b, lookEq_put hrel hdd, after_put fun _ _ hc => mem_cons' hc⟩
    · exact fun b => ⟨_, h b, lookEq_put hrel hdd, after_put fun _ _ hc => hc⟩
  case buildS t n z parts =>
    simp only [effV] at h ⊢
    rw [partOn_same hsm, partVals_same hsm]
    exact ⟨h.1, h.2.1, fun b => ⟨_, h.2.2 b, lookEq_put hrel hdd, after_put fun _ _ hc => mem_cons' hc⟩⟩
  case mk e sz bytes z n c =>
    simp only [effV] at h ⊢
    rw [val_same hsm.left, val_same hsm.right]
    split
    · rename_i e1 e2
      rw [e1, e2] at h
      exact ⟨h.1, h.2.1, h.2.2.1, fun b => ⟨_, h.2.2.2 b, lookEq_put hrel hdd, after_put fun _ _ hc => mem_cons' hc⟩⟩
    · rename_i e1
      split at h
      · rename_i q1 q2
        exact (e1 _ _ q1 q2).elim
      · exact h
  case appz t u e sz bytes z s' x =>
    simp only [effV] at h ⊢
    rw [val_same hsm.left, val_same hsm.right]
    refine ⟨h.1, h.2.1, ?_⟩
    have h2 := h.2.2
    split
    · rename_i e1 e2
      rw [e1, e2] at h2
      obtain ⟨a1, a2, a3, i, g, a4, a5⟩ := h2
      exact ⟨a1, a2, a3, i, g, a4, fun v' h' r1 r2 => ⟨_, a5 v' h' r1 r2, lookEq_put hrel hdd, after_put fun q => by cases q⟩⟩
    · rename_i e1
      split at h2
      · rename_i q1 q2
        exact (e1 _ _ q1 q2).elim
      · exact h2
  case append t e sz bytes z s' x =>
    simp only [effV] at h ⊢
    rw [val_same hsm.left, val_same hsm.right]
    refine ⟨h.1, h.2.1, ?_⟩
    split
    · rename_i e1
      have h2 := h.2.2
      rw [e1] at h2
      obtain ⟨i, g, n, xs, news, a1, a2, a3, a4, a5, a6, a7, a8⟩ := h2
      exact ⟨i, g, n, xs, news, a1, a2, a3, a4, a5, a6, a7, fun v' h' r1 r2 r3 => ⟨_, a8 v' h' r1 r2 r3, lookEq_put hrel hdd, after_put fun q => by cases q⟩⟩
    · rename_i e1
      have h2 := h.2.2
      split at h2
      · exact absurd ‹_› (e1 _ _ _)
      · exact h2
  case call f args =>
    simp only [effV] at h ⊢
    rw [val_same hsm.left, vals_same hsm.right, allOn_same hsm.right]
    refine ⟨h.1, ?_⟩
    split
    · rename_i e1
      have h2 := h.2
      rw [e1] at h2
      obtain ⟨Γr1, Γm, Γf, R, a1, a2, a3, a4⟩ := h2
      exact ⟨Γr1, Γm, Γf, R, a1, a2, a3, fun v Γ' hR => ⟨_, a4 v Γ' hR, lookEq_put hrel hdd, after_put fun q => by cases q⟩⟩
    · rename_i e1
      have h2 := h.2
      split at h2
      · exact absurd ‹_› (e1 _ _ _)
      · exact h2
  case store n x y =>
    simp only [effV] at h ⊢
    rw [val_same hsm.left, val_same hsm.right, slotOf_same hsm.left]
    obtain ⟨h1, h2, h3, h4, h5⟩ := h
    refine ⟨h1, h2, h3, h4, ?_⟩
    split at h5
    · rename_i e s0 b o e1
      try simp only [e1]
      split at h5
      · rename_i b' T cs e2
        have hne : ¬ dx = some s0 := by
          intro q
          rw [hrel s0, look_put, if_pos q] at e2
          rw [e2] at hs
          cases hs
        have e3 : look ψ s0 = .box b' T cs := by rw [← e2, hrel s0, look_put, if_neg hne]
        simp only [e3]
        refine ⟨h5.1, h5.2.1, _, h5.2.2, fun t => ?_, fun t _ => ?_, fun q => absurd rfl q, fun q => by cases q⟩
        · rw [look_upd, look_put, look_upd, hrel t, look_put]
          by_cases q : dx = some t
          · have : ¬ s0 = t := fun r => hne (by rw [r]; exact q)
            simp [q, this]
          · simp [q]
        · rw [look_upd]
          split
          · cases look ψ t <;> rfl
          · rfl
      · exact h5.elim
    · rename_i e1
      try simp only [e1]
      obtain ⟨i, g, cells, T, a1, a2, a3, a4⟩ := h5
      exact ⟨i, g, cells, T, a1, a2, a3, _, a4, hrel, fun t _ => rfl, fun _ t _ => rfl, fun q => by cases q⟩
    · exact h5.elim
  case a c xs =>
    simp only [effV] at h ⊢
    rw [vals_same hsm, allOn_same hsm]
    refine ⟨h.1, fun w hw => ?_⟩
    obtain ⟨v, w', m, h1, h2⟩ := h.2 w hw
    refine ⟨v, w', m, h1, ?_⟩
    rcases h2 with ⟨h2, h3⟩ | ⟨i, g, b, p, q, h2, h3, h4, h5⟩
    · exact .inl ⟨h2, _, h3, lookEq_put hrel hdd, after_put fun q => by cases q⟩
    · exact .inr ⟨i, g, b, p, q, h2, h3, h4, _, h5, lookEq_put hrel hdd, after_put fun q => by cases q⟩
  case n c xs =>
    simp only [effV] at h ⊢
    rw [vals_same hsm, allOn_same hsm]
    refine ⟨h.1, fun w hw => ?_⟩
    obtain ⟨v, q, h1, h2⟩ := h.2 w hw
    exact ⟨v, q, h1, _, h2, lookEq_put hrel hdd, after_put fun _ _ hc => mem_cons' hc⟩
  all_goals (simp only [effV] at h)

theorem effV_false {P : Program} {Γr Γ : Ctx} {φ : Fr} {d : Option Nat} {op : SOp} {k : Fr → Ctx → Prop} (h : effV P Γr φ Γ d op k) : isPure op = false ∧ isAsk op = false := by
  cases op <;> simp only [effV] at h <;> first | exact ⟨rfl, rfl⟩ | exact h.elim
theorem modi_quiet {op : SOp} (h : (isPure op || isAsk op) = true) : modi op = 0 := by
  cases op <;> first | rfl | simp [isPure, isAsk] at h

/-- an operation that only reads: what it answers, wherever what it looks at is the same -/
theorem vc1_quiet {P : Program} {Γr Γ : Ctx} {φ : Fr} {early : Bool} {x : SOper} {k : Fr → Ctx → Prop} (hq : (isPure x.op || isAsk x.op) = true) (h : vc1 P Γr early x φ Γ k) :
    ∃ s, isBox s = false ∧ k (put φ x.dst s) Γ ∧ ∀ ψ Γ', SameOn (rdS x) φ ψ → (isLoad x.op = true → ∀ t, isBox (look φ t) = true → look ψ t = look φ t) →
      (isLoad x.op = true → ∀ g ∈ ctxOf early Γ Γr, g ∈ ctxOf early Γ' Γr) → ∀ k' : Fr → Ctx → Prop, k' (put ψ x.dst s) Γ' → vc1 P Γr early x ψ Γ' k' := by
  unfold vc1 at h ⊢
  split at h
  · rename_i e he
    cases hp : isPure x.op with
    | true =>
      simp only [hp, cond_true] at h ⊢
      obtain ⟨s, h1, h2, h3⟩ := pure_split h
      refine ⟨s, h1, h2, fun ψ Γ' hs _ _ k' hk => ?_⟩
      rw [gd_same hs.left, he]
      simp only
      rw [pure_same hs.right]
      exact h3 _ hk
    | false =>
      have ha : isAsk x.op = true := by simpa [hp] using hq
      simp only [hp, ha, cond_true, cond_false] at h ⊢
      obtain ⟨s, h1, h2, h3⟩ := ask_split h
      refine ⟨s, h1, h2, fun ψ Γ' hs hb hc k' hk => ?_⟩
      rw [gd_same hs.left, he]
      exact h3 ψ _ hs.right hb hc _ hk
  · exact h.elim

/-- an operation in a frame that lacks one slot -/
theorem vc1_move {P : Program} {Γr Γ : Ctx} {φ ψ : Fr} {dx : Option Nat} {s : Sl} {early : Bool} {y : SOper} {k : Fr → Ctx → Prop} (hrel : LookEq φ (put ψ dx s)) (hs : isBox s = false)
    (hrd : ∀ d, dx = some d → d ∉ rdS y) (hdd : ∀ d, dx = some d → y.dst ≠ some d) (h : vc1 P Γr early y φ Γ k) :
    vc1 P Γr early y ψ Γ (fun ψ' Γ' => ∃ φ', k φ' Γ' ∧ LookEq φ' (put ψ' dx s) ∧ After Γr y.dst (modi y.op) ψ ψ' Γ Γ') := by
  have hsm : SameOn (rdS y) φ ψ := sameOn_put hrel hrd
  cases hq : (isPure y.op || isAsk y.op) with
  | true =>
    obtain ⟨v, h1, h2, h3⟩ := vc1_quiet hq h
    refine h3 ψ Γ hsm (fun _ t ht => ?_) (fun _ _ hc => hc) _ ⟨_, h2, lookEq_put hrel hdd, after_put fun _ _ hc => hc⟩
    rw [hrel t, look_put]
    by_cases q : dx = some t
    · rw [hrel t, look_put, if_pos q, hs] at ht; cases ht
    · rw [if_neg q]
  | false =>
    have hp : isPure y.op = false := by cases h' : isPure y.op <;> simp_all
    have ha : isAsk y.op = false := by cases h' : isAsk y.op <;> simp_all
    unfold vc1 at h ⊢
    rw [gd_same hsm.left]
    split at h
    · rename_i e he
      simp only [hp, ha, cond_false] at h ⊢
      refine ⟨fun q => eff_move hrel hs (fun d hd hm => hrd d hd (by simp [rdS, hm])) hdd (h.1 q), fun q => let ⟨x, hx⟩ := h.2 q; ⟨x, _, hx, lookEq_put hrel hdd, ?_⟩⟩
      exact after_put fun _ _ hc => hc
    · exact h.elim

theorem eff_mono {P : Program} {Γr Γ : Ctx} {φ : Fr} {d : Option Nat} {op : SOp} {k k' : Fr → Ctx → Prop} (hk : ∀ φ Γ, k φ Γ → k' φ Γ) (h : effV P Γr φ Γ d op k) : effV P Γr φ Γ d op k' := by
  cases op <;> simp only [effV] at h ⊢
  case box loc T x => cases loc <;> simp only [effV] at h ⊢ <;> exact ⟨h.1, h.2.1, fun b => hk _ _ (h.2.2 b)⟩
  case alloc loc T z => cases loc <;> simp only [effV] at h ⊢ <;> exact fun b => hk _ _ (h b)
  case buildS t n z parts => exact ⟨h.1, h.2.1, fun b => hk _ _ (h.2.2 b)⟩
  case mk e sz bytes z n c =>
    split at h
    · exact ⟨h.1, h.2.1, h.2.2.1, fun b => hk _ _ (h.2.2.2 b)⟩
    · exact h.elim
  case appz t u e sz bytes z s' x =>
    refine ⟨h.1, h.2.1, ?_⟩
    have h2 := h.2.2
    split at h2
    · obtain ⟨a1, a2, a3, i, g, a4, a5⟩ := h2
      exact ⟨a1, a2, a3, i, g, a4, fun v' h' r1 r2 => hk _ _ (a5 v' h' r1 r2)⟩
    · exact h2.elim
  case append t e sz bytes z s' x =>
    refine ⟨h.1, h.2.1, ?_⟩
    have h2 := h.2.2
    split at h2
    · obtain ⟨i, g, n, xs, news, a1, a2, a3, a4, a5, a6, a7, a8⟩ := h2
      exact ⟨i, g, n, xs, news, a1, a2, a3, a4, a5, a6, a7, fun v' h' r1 r2 r3 => hk _ _ (a8 v' h' r1 r2 r3)⟩
    · exact h2.elim
  case call f args =>
    refine ⟨h.1, ?_⟩
    have h2 := h.2
    split at h2
    · obtain ⟨Γr1, Γm, Γf, R, a1, a2, a3, a4⟩ := h2
      exact ⟨Γr1, Γm, Γf, R, a1, a2, a3, fun v Γ' hR => hk _ _ (a4 v Γ' hR)⟩
    · exact h2.elim
  case store n x y =>
    obtain ⟨h1, h2, h3, h4, h5⟩ := h
    refine ⟨h1, h2, h3, h4, ?_⟩
    split at h5
    · split at h5
      · exact ⟨h5.1, h5.2.1, hk _ _ h5.2.2⟩
      · exact h5.elim
    · obtain ⟨i, g, cells, T, a1, a2, a3, a4⟩ := h5
      exact ⟨i, g, cells, T, a1, a2, a3, hk _ _ a4⟩
    · exact h5.elim
  case a c xs =>
    refine ⟨h.1, fun w hw => ?_⟩
    obtain ⟨v, w', m, h1, h2⟩ := h.2 w hw
    refine ⟨v, w', m, h1, ?_⟩
    rcases h2 with ⟨h2, h3⟩ | ⟨i, g, b, p, q, h2, h3, h4, h5⟩
    · exact .inl ⟨h2, hk _ _ h3⟩
    · exact .inr ⟨i, g, b, p, q, h2, h3, h4, hk _ _ h5⟩
  case n c xs =>
    refine ⟨h.1, fun w hw => ?_⟩
    obtain ⟨v, q, h1, h2⟩ := h.2 w hw
    exact ⟨v, q, h1, hk _ _ h2⟩
theorem vc1_mono {P : Program} {Γr Γ : Ctx} {φ : Fr} {early : Bool} {o : SOper} {k k' : Fr → Ctx → Prop} (hk : ∀ φ Γ, k φ Γ → k' φ Γ) (h : vc1 P Γr early o φ Γ k) : vc1 P Γr early o φ Γ k' := by
  unfold vc1 at h ⊢
  split at h
  · rename_i e he
    cases hp : isPure o.op with
    | true =>
      simp only [hp, cond_true] at h ⊢
      obtain ⟨s, _, h2, h3⟩ := pure_split h
      exact h3 _ (hk _ _ h2)
    | false =>
      cases ha : isAsk o.op with
      | true =>
        simp only [hp, ha, cond_true, cond_false] at h ⊢
        obtain ⟨s, _, h2, h3⟩ := ask_split h
        exact h3 φ _ (fun _ _ => rfl) (fun _ _ _ => rfl) (fun _ _ hc => hc) _ (hk _ _ h2)
      | false =>
        simp only [hp, ha, cond_false] at h ⊢
        exact ⟨fun q => eff_mono hk (h.1 q), fun q => let ⟨x, hx⟩ := h.2 q; ⟨x, hk _ _ hx⟩⟩
  · exact h.elim

theorem LookEq.sym {φ ψ : Fr} (h : LookEq φ ψ) : LookEq ψ φ := fun t => (h t).symm
theorem vc1_ext {P : Program} {Γr Γ : Ctx} {φ ψ : Fr} {early : Bool} {o : SOper} {k : Fr → Ctx → Prop} (hk : Ext k) (hl : LookEq φ ψ) (h : vc1 P Γr early o φ Γ k) : vc1 P Γr early o ψ Γ k :=
  vc1_mono (fun φ' Γ' ⟨φ'', h1, h2, _⟩ => hk _ _ _ h2 h1) (vc1_move (dx := none) (s := .dead) (by simpa [put] using hl) rfl (fun _ q => by cases q) (fun _ q => by cases q) h)
theorem vcD_ext {P : Program} {Γr : Ctx} {K : Fr → Ctx → Prop} (hK : Ext K) : ∀ (l : List (Bool × SOper)), Ext (fun φ Γ => vcD P Γr l φ Γ K)
  | [] => hK
  | x :: r => fun φ ψ Γ hl h => vc1_ext (vcD_ext hK r) hl h

/-- two operations turned round -/
theorem vc1_swap {P : Program} {Γr Γ : Ctx} {φ : Fr} {x y : Bool × SOper} {k : Fr → Ctx → Prop} (hk : Ext k) (hm : mayPass x y = true) (hd : dstEq x.2 y.2 = false)
    (hnb : ∀ d, y.2.dst = some d → isBox (look φ d) = false)
    (h : vc1 P Γr x.1 x.2 φ Γ (fun φ1 Γ1 => vc1 P Γr y.1 y.2 φ1 Γ1 k)) : vc1 P Γr y.1 y.2 φ Γ (fun φ1 Γ1 => vc1 P Γr x.1 x.2 φ1 Γ1 k) := by
  unfold mayPass at hm
  simp only [Bool.and_eq_true, Bool.not_eq_true'] at hm
  obtain ⟨⟨⟨hq, h1⟩, h2⟩, h3⟩ := hm
  obtain ⟨s, hs, hy, hans⟩ := vc1_quiet hq h
  have hdx : ∀ d, x.2.dst = some d → d ∉ rdS y.2 := fun d q hmem => by simp [dstIn, q, hmem] at h1
  have hdy : ∀ d, y.2.dst = some d → d ∉ rdS x.2 := fun d q hmem => by simp [dstIn, q, hmem] at h2
  have hdd : ∀ d, x.2.dst = some d → y.2.dst ≠ some d := fun d q r => by simp [dstEq, q, r] at hd
  refine vc1_mono ?_ (vc1_move (φ := put φ x.2.dst s) (fun _ => rfl) hs hdx hdd hy)
  rintro ψ' Γ' ⟨φ', hk', hl, ha1, ha2, ha3⟩
  refine hans ψ' Γ' (fun t ht => ha1 t (fun q => hdy t q ht)) (fun hload t ht => ?_) (fun hload b hc => ?_) _ (hk _ _ _ hl hk')
  · refine ha2 ?_ t (fun q => by rw [hnb t q] at ht; cases ht)
    intro q
    simp [hload, q] at h3
  · cases hx : x.1 with
    | true => rw [hx] at hc; exact hc
    | false =>
      rw [hx] at hc
      refine ha3 ?_ b hc
      simp [hload, hx] at h3
      exact h3

theorem bubble {P : Program} {Γr : Ctx} {K : Fr → Ctx → Prop} (hK : Ext K) {y : Bool × SOper} {l2 : List (Bool × SOper)} : ∀ (l1 : List (Bool × SOper)) (φ : Fr) (Γ : Ctx),
    (∀ x ∈ l1, mayPass x y = true ∧ dstEq x.2 y.2 = false) → (∀ d, y.2.dst = some d → isBox (look φ d) = false) →
    vcD P Γr (l1 ++ y :: l2) φ Γ K → vc1 P Γr y.1 y.2 φ Γ (fun φ' Γ' => vcD P Γr (l1 ++ l2) φ' Γ' K)
  | [], φ, Γ, _, _, h => h
  | x :: l1, φ, Γ, hx, hnb, h => by
    simp only [List.cons_append, vcD] at h
    obtain ⟨hm, hd⟩ := hx x (by simp)
    have hm' := hm
    unfold mayPass at hm'
    simp only [Bool.and_eq_true, Bool.not_eq_true'] at hm'
    have hdd : ∀ d, x.2.dst = some d → y.2.dst ≠ some d := fun d q r => by simp [dstEq, q, r] at hd
    obtain ⟨s, hs, hk, hans⟩ := vc1_quiet hm'.1.1.1 h
    have ih := bubble hK l1 (put φ x.2.dst s) Γ (fun z hz => hx z (by simp [hz])) (fun d q => by
      rw [look_put, if_neg (fun r => hdd d r q)]
      exact hnb d q) hk
    simp only [List.cons_append, vcD]
    exact vc1_swap (vcD_ext hK _) hm hd hnb (hans φ Γ (fun _ _ => rfl) (fun _ _ _ => rfl) (fun _ _ hc => hc) (fun φ1 Γ1 => vc1 P Γr y.1 y.2 φ1 Γ1 (fun φ' Γ' => vcD P Γr (l1 ++ l2) φ' Γ' K)) ih)

theorem vcOps_of_vc1 {P : Program} {Γr Γ : Ctx} {φ : Fr} {early : Bool} {y : SOper} {k : Fr → Ctx → Prop} (h : vc1 P Γr early y φ Γ k) : vcOps P Γr [y] φ Γ k := by
  obtain ⟨d, g, op⟩ := y
  have key : ∀ e, isPure op = false → isAsk op = true → askV P (ctxOf early Γ Γr) φ e op (fun x => k (put φ d x) Γ) → askV P (Γ ++ Γr) φ e op (fun x => k (put φ d x) Γ) := by
    intro e _ _ q
    cases early with
    | false => exact q
    | true =>
      obtain ⟨s, _, h2, h3⟩ := ask_split q
      exact h3 φ _ (fun _ _ => rfl) (fun _ _ _ => rfl) (fun _ g hg => by simp [show g ∈ Γr from hg]) _ h2
  unfold vc1 at h
  cases g with
  | none =>
    simp only [gd] at h
    simp only [vcOps]
    cases hp : isPure op with
    | true => simpa only [hp, cond_true] using h
    | false =>
      cases ha : isAsk op with
      | true => simp only [hp, ha, cond_true, cond_false] at h ⊢; exact key _ hp ha h
      | false => simp only [hp, ha, cond_false] at h ⊢; exact h.1 (by simp)
  | some g =>
    simp only [vcOps]
    split at h
    · rename_i e he
      simp only at he
      rw [he]
      simp only
      cases hp : isPure op with
      | true => simpa only [hp, cond_true] using h
      | false =>
        cases ha : isAsk op with
        | true => simp only [hp, ha, cond_true, cond_false] at h ⊢; exact key _ hp ha h
        | false => simp only [hp, ha, cond_false] at h ⊢; exact h
    · exact h.elim

def QK (K : Act → World → Prop) : Exit → Act → World → Prop
  | .normal, a, w => K a w
  | _, _, _ => False
theorem letsOut_QK {K : Act → World → Prop} : ¬ LetsOut (QK K) := fun ⟨_, _, h⟩ => h
theorem wp_QK {P : Program} {o : Oper} {a : Act} {w : World} {N K : Act → World → Prop} {Q : Exit → Act → World → Prop} (h : o.wp P a w N (QK K)) : o.wp P a w N Q := by
  unfold Oper.wp at *
  generalize (execOp a.eval o).run P w = r at *
  cases r with
  | ok n w' =>
    cases n <;> simp only [Oper.upon] at h ⊢ <;>
      first
        | exact h
        | exact Calls.mono h (fun e w'' he => by cases e <;> first | exact he | exact he.elim | exact absurd he letsOut_QK)
        | exact Rows.mono h (fun _ _ he => he)
  | halt x w' => cases x <;> simp only [Oper.upon] at h ⊢ <;> exact h.elim

theorem trOpers_at {P : Program} {n : Nat} {locs : List Nat} {ops : Array Oper} : ∀ {l : List Oper} {sl : List SOper}, trOpers P n locs ops l = some sl →
    sl.length = l.length ∧ ∀ (i : Nat) o, l[i]? = some o → ∃ y, sl[i]? = some y ∧ trOper P n locs ops o = some y
  | [], sl, h => by
    simp only [trOpers, Option.some.injEq] at h
    subst h
    exact ⟨rfl, fun i o q => by simp at q⟩
  | o :: r, sl, h => by
    simp only [trOpers] at h
    split at h
    · rename_i so l' hso hl'
      simp only [Option.some.injEq] at h
      subst h
      obtain ⟨h1, h2⟩ := trOpers_at hl'
      refine ⟨by simp [h1], fun i o' q => ?_⟩
      cases i with
      | zero => simp at q; subst q; exact ⟨so, rfl, hso⟩
      | succ i => simpa using h2 i o' (by simpa using q)
    · cases h

section
variable {n : Nat} {Γr Γm : Ctx} {w0 : World} {φ : Fr} {Γ : Ctx} {a : Act} {w : World} {P : Program}

theorem one_sound {locs : List Nat} {ops : Array Oper} {i : Nat} {o : Oper} {y : SOper} {early : Bool} {k : Fr → Ctx → Prop} {K : Act → World → Prop} {Q : Exit → Act → World → Prop}
    (ho : ops[i]? = some o) (hy : trOper P n locs ops o = some y) (hv : vc1 P Γr early y φ Γ k) (hst : St n Γr Γm w0 φ Γ a w)
    (hK : ∀ φ Γ a w, k φ Γ → St n Γr Γm w0 φ Γ a w → K a w) : wpOp P ops Q i K a w := by
  have h := vcOps_sound (P := P) (locs := locs) (ops := ops) (Q := QK K) (K := k) (fun φ Γ a w hk hs => hK φ Γ a w hk hs) [o] [y] (by simp [trOpers, hy]) φ Γ a w (vcOps_of_vc1 hv) hst
  unfold wpOp
  rw [ho]
  simp only [wpList] at h ⊢
  split
  · rename_i hw
    rw [if_pos hw] at h
    rcases h with h | ⟨_, h⟩
    · exact .inl (wp_QK h)
    · exact absurd h letsOut_QK
  · rename_i hw
    rw [if_neg hw] at h
    exact h

/-! the order -/
def PairOk (sl : List SOper) (E : List Nat) (T : List (List Nat)) (i j : Nat) : Prop :=
  ∃ x y tj, sl[i]? = some x ∧ sl[j]? = some y ∧ T[j]? = some tj ∧ dstEq x y = false ∧ (i ∈ tj ∨ mayPass (E.contains i, x) (E.contains j, y) = true)

theorem orderOk_spec {ops : List Oper} {sl : List SOper} {E : List Nat} {T : List (List Nat)} : ∀ (C seen : List Nat), orderOk ops sl E T seen C = true →
    C.Nodup ∧ (∀ j ∈ C, j ∉ seen) ∧ (∀ j ∈ C, j < ops.length) ∧ C.Pairwise (PairOk sl E T) ∧ (∀ i ∈ seen, ∀ j ∈ C, PairOk sl E T i j) ∧
    (∀ C1 j C2, C = C1 ++ j :: C2 → ∀ o, ops[j]? = some o → ∀ p ∈ direct o, p ∈ seen ∨ p ∈ C1)
  | [], seen, _ => ⟨List.nodup_nil, by simp, by simp, List.Pairwise.nil, by simp, by simp⟩
  | j :: r, seen, h => by
    simp only [orderOk, Bool.and_eq_true, Bool.not_eq_true'] at h
    obtain ⟨⟨h1, h2⟩, h3⟩ := h
    split at h2
    · rename_i o y tj ho hy htj
      simp only [Bool.and_eq_true, List.all_eq_true] at h2
      obtain ⟨h4, h5⟩ := h2
      obtain ⟨a1, a2, a3, a4, a5, a6⟩ := orderOk_spec r (j :: seen) h3
      have hj : j ∉ seen := by simpa using h1
      have hsj : ∀ i ∈ seen, PairOk sl E T i j := fun i hi => by
        have := h5 i hi
        split at this
        · rename_i x hx
          simp only [Bool.and_eq_true, Bool.not_eq_true', Bool.or_eq_true] at this
          exact ⟨x, y, tj, hx, hy, htj, this.1, by simpa using this.2⟩
        · cases this
      refine ⟨List.nodup_cons.2 ⟨fun q => a2 j q (by simp), a1⟩, ?_, ?_, ?_, ?_, ?_⟩
      · intro k hk
        rcases List.mem_cons.1 hk with rfl | hk
        · exact hj
        · exact fun q => a2 k hk (by simp [q])
      · intro k hk
        rcases List.mem_cons.1 hk with rfl | hk
        · exact (List.getElem?_eq_some_iff.1 ho).1
        · exact a3 k hk
      · exact List.pairwise_cons.2 ⟨fun k hk => a5 j (by simp) k hk, a4⟩
      · intro i hi k hk
        rcases List.mem_cons.1 hk with rfl | hk
        · exact hsj i hi
        · exact a5 i (by simp [hi]) k hk
      · intro C1 k C2 hC o' ho' p hp
        cases C1 with
        | nil =>
          simp only [List.nil_append, List.cons.injEq] at hC
          obtain ⟨rfl, rfl⟩ := hC
          rw [ho] at ho'
          cases ho'
          left
          simpa using h4 p hp
        | cons c C1 =>
          simp only [List.cons_append, List.cons.injEq] at hC
          obtain ⟨rfl, hC⟩ := hC
          rcases a6 C1 k C2 hC o' ho' p hp with q | q
          · rcases List.mem_cons.1 q with rfl | q
            · right; simp
            · exact .inl q
          · right; simp [q]
    · cases h2

theorem ancOk_spec {ops : List Oper} {T : List (List Nat)} : ∀ (S : List (List Nat)) (j : Nat), ancOk ops T j S = true →
    ∀ k ys, S[k]? = some ys → ∃ o, ops[j + k]? = some o ∧ ∀ y ∈ ys, y ∈ direct o ∨ ∃ p ∈ direct o, ∃ zs, T[p]? = some zs ∧ y ∈ zs
  | [], j, _, k, ys, h => by simp at h
  | s :: S, j, h, k, ys, hk => by
    simp only [ancOk, Bool.and_eq_true] at h
    obtain ⟨h1, h2⟩ := h
    cases k with
    | zero =>
      simp at hk
      subst hk
      split at h1
      · rename_i o ho
        refine ⟨o, by simpa using ho, fun y hy => ?_⟩
        have := List.all_eq_true.1 h1 y hy
        simp only [Bool.or_eq_true, List.any_eq_true] at this
        rcases this with q | ⟨p, hp, q⟩
        · left; simpa using q
        · right
          split at q
          · rename_i zs hz
            exact ⟨p, hp, zs, hz, by simpa using q⟩
          · cases q
      · cases h1
    | succ k =>
      have := ancOk_spec S (j + 1) h2 k ys (by simpa using hk)
      rw [show j + (k + 1) = j + 1 + k by omega]
      exact this

theorem noBoxes_mem {φ : Fr} (l : List (Bool × SOper)) (h : noBoxes φ l) (x : Bool × SOper) (hx : x ∈ l) (d : Nat) (hd : x.2.dst = some d) : isBox (look φ d) = false := by
  induction l with
  | nil => cases hx
  | cons y r ih =>
    rcases List.mem_cons.1 hx with q | q
    · subst q
      have h1 := h.1
      rw [hd] at h1
      exact h1
    · exact ih h.2 q
theorem bare_isBox {x y : Sl} (h : bare x = bare y) : isBox x = isBox y := by
  cases x <;> cases y <;> simp_all [bare, isBox]

variable {locs : List Nat} {ops : Array Oper} {sl : List SOper} {E : List Nat} {T : List (List Nat)} {pk : Nat → Bool × SOper} {K : Fr → Ctx → Prop} {Q : Exit → Act → World → Prop}
theorem ready_iff {listed : Array Bool} {i : Nat} (h : i ∈ Region.ready .any ops listed) : ∃ o, ops[i]? = some o ∧ listed.getD i true = false ∧ ∀ p ∈ direct o, listed.getD p false = true := by
  unfold Region.ready at h
  obtain ⟨h1, h2⟩ := List.mem_filter.1 h
  simp only [Bool.and_eq_true, Bool.not_eq_true'] at h2
  have hi : i < ops.size := by simpa using h1
  have ho : ops[i]? = some ops[i] := Array.getElem?_eq_getElem hi
  refine ⟨_, ho, h2.1, fun p hp => ?_⟩
  have h3 := h2.2
  rw [ho] at h3
  simp only [Option.map_some, Option.getD_some] at h3
  rw [Array.all_eq_true'] at h3
  obtain ⟨e, he, rfl⟩ := List.mem_map.1 hp
  obtain ⟨he1, he2⟩ := List.mem_filter.1 he
  have := h3 e (by simpa using he1)
  simpa [he2] using this
theorem ready_mk {listed : Array Bool} {i : Nat} {o : Oper} (ho : ops[i]? = some o) (hl : listed.getD i true = false) (hp : ∀ p ∈ direct o, listed.getD p false = true) : i ∈ Region.ready .any ops listed := by
  unfold Region.ready
  refine List.mem_filter.2 ⟨by simpa using (Array.getElem?_eq_some_iff.1 ho).1, ?_⟩
  simp only [hl, Bool.not_false, Bool.true_and, ho, Option.map_some, Option.getD_some]
  rw [Array.all_eq_true']
  intro e he
  cases hb : Region.binds .any e with
  | false => simp
  | true =>
    have : e.on ∈ direct o := List.mem_map.2 ⟨e, List.mem_filter.2 ⟨by simpa using he, hb⟩, rfl⟩
    simp [hp _ this]
theorem getD_set {l : Array Bool} {i j : Nat} {b : Bool} (hi : i < l.size) : (l.setIfInBounds i true).getD j b = if i = j then true else l.getD j b := by
  simp only [Array.getD_eq_getD_getElem?, Array.getElem?_setIfInBounds]
  by_cases h : i = j
  · subst h; simp [hi]
  · simp [h]

structure Rest (φ : Fr) (ops : Array Oper) (sl : List SOper) (E : List Nat) (T : List (List Nat)) (pk : Nat → Bool × SOper) (listed : Array Bool) (R : List Nat) : Prop where
  size : listed.size = ops.size
  nodup : R.Nodup
  mem : ∀ i, i ∈ R ↔ i < ops.size ∧ listed.getD i true = false
  pair : R.Pairwise (PairOk sl E T)
  pre : ∀ R1 j R2, R = R1 ++ j :: R2 → ∀ o, ops[j]? = some o → ∀ p ∈ direct o, p ∈ R1 ∨ listed.getD p false = true
  inv : ∀ (k : Nat) ys, T[k]? = some ys → listed.getD k false = true → ∀ y ∈ ys, listed.getD y false = true
  nb : ∀ i ∈ R, ∀ d, (pk i).2.dst = some d → isBox (look φ d) = false

theorem Rest.first {listed : Array Bool} {r : Nat} {R : List Nat} (h : Rest φ ops sl E T pk listed (r :: R)) : r ∈ Region.ready .any ops listed := by
  have h0 := (h.mem r).1 (by simp)
  refine ready_mk (Array.getElem?_eq_getElem h0.1) h0.2 fun p hp => ?_
  rcases h.pre [] r R rfl _ (Array.getElem?_eq_getElem h0.1) p hp with q | q
  · simp at q
  · exact q

theorem Rest.drop {listed : Array Bool} {i : Nat} {R1 R2 : List Nat} {o : Oper} {φ' : Fr} (h : Rest φ ops sl E T pk listed (R1 ++ i :: R2)) (ho : ops[i]? = some o) (hp : ∀ p ∈ direct o, listed.getD p false = true)
    (hT : ∀ ys, T[i]? = some ys → ∀ y ∈ ys, listed.getD y false = true) (hbare : ∀ t, (pk i).2.dst ≠ some t → bare (look φ' t) = bare (look φ t)) (hd : ∀ j ∈ R1 ++ R2, dstEq (pk j).2 (pk i).2 = false) :
    Rest φ' ops sl E T pk (listed.setIfInBounds i true) (R1 ++ R2) := by
  have hi : i < listed.size := by rw [h.size]; exact (Array.getElem?_eq_some_iff.1 ho).1
  have hnd : (i :: (R1 ++ R2)).Nodup := (List.perm_middle.nodup_iff).1 h.nodup
  obtain ⟨hni, hnd'⟩ := List.nodup_cons.1 hnd
  have hmem : ∀ j, j ∈ R1 ++ i :: R2 ↔ j = i ∨ j ∈ R1 ++ R2 := fun j => by rw [List.perm_middle.mem_iff, List.mem_cons]
  have hsub : (R1 ++ R2).Sublist (R1 ++ i :: R2) := List.Sublist.append_left (List.sublist_cons_self i R2) R1
  refine ⟨by simp [h.size], hnd', fun j => ?_, h.pair.sublist hsub, fun S1 j S2 hS o' ho' p hp' => ?_, fun k ys hk hl y hy => ?_, fun j hj d hdj => ?_⟩
  · rw [getD_set hi]
    by_cases e : i = j
    · subst e; simp [hni]
    · rw [if_neg e, ← h.mem j, hmem]
      constructor
      · exact fun q => .inr q
      · rintro (q | q)
        · exact absurd q.symm e
        · exact q
  · rw [getD_set hi]
    by_cases e : i = p
    · right; rw [if_pos e]
    rw [if_neg e]
    -- where j stood before
    have hsplit : ∃ U1 U2, R1 ++ i :: R2 = U1 ++ j :: U2 ∧ ∀ q ∈ U1, q = i ∨ q ∈ S1 := by
      rcases List.append_eq_append_iff.1 hS with ⟨as, h1, h2⟩ | ⟨bs, h1, h2⟩
      · -- S1 = R1 ++ as, R2 = as ++ j :: S2
        refine ⟨R1 ++ i :: as, S2, by rw [h2]; simp, fun q hq => ?_⟩
        rw [h1]
        simp at hq ⊢
        rcases hq with q' | q' | q'
        · exact .inr (.inl q')
        · exact .inl q'
        · exact .inr (.inr q')
      · -- R1 = S1 ++ bs, j :: S2 = bs ++ R2
        cases bs with
        | nil =>
          simp only [List.append_nil, List.nil_append] at h1 h2
          refine ⟨S1 ++ [i], S2, by rw [h1, ← h2]; simp, fun q hq => ?_⟩
          simp at hq
          exact hq.symm
        | cons b bs =>
          simp only [List.cons_append, List.cons.injEq] at h2
          obtain ⟨rfl, h2⟩ := h2
          exact ⟨S1, bs ++ i :: R2, by rw [h1]; simp, fun q hq => .inr hq⟩
    obtain ⟨U1, U2, hU, hq⟩ := hsplit
    rcases h.pre U1 j U2 hU o' ho' p hp' with q | q
    · rcases hq p q with r | r
      · exact absurd r.symm e
      · exact .inl r
    · exact .inr q
  · rw [getD_set hi] at hl ⊢
    by_cases e : i = y
    · rw [if_pos e]
    rw [if_neg e]
    by_cases e' : i = k
    · subst e'
      exact hT ys hk y hy
    · rw [if_neg e'] at hl
      exact h.inv k ys hk hl y hy
  · have hne : (pk i).2.dst ≠ some d := fun q => by
      have := hd j hj
      simp [dstEq, hdj, q] at this
    rw [bare_isBox (hbare d hne)]
    exact h.nb j ((hmem j).2 (.inr hj)) d hdj

theorem drawn_go (hK : Ext K) (hsl : ∀ (i : Nat) o, ops[i]? = some o → ∃ y, sl[i]? = some y ∧ trOper P n locs ops o = some y) (hpk : ∀ (i : Nat) y, sl[i]? = some y → pk i = (E.contains i, y))
    (hT : ∀ (k : Nat) ys, T[k]? = some ys → ∃ o, ops[k]? = some o ∧ ∀ y ∈ ys, y ∈ direct o ∨ ∃ p ∈ direct o, ∃ zs, T[p]? = some zs ∧ y ∈ zs)
    (hQ : ∀ φ Γ a w, K φ Γ → St n Γr Γm w0 φ Γ a w → Q .normal a w) :
    ∀ (m : Nat) (R : List Nat) (listed : Array Bool) φ Γ a w, R.length = m → Rest φ ops sl E T pk listed R → vcD P Γr (R.map pk) φ Γ K → St n Γr Γm w0 φ Γ a w → wpAny P .any ops Q m listed a w
  | 0, R, listed, φ, Γ, a, w, hl, hrest, hv, hst => by
    obtain rfl := List.eq_nil_of_length_eq_zero hl
    refine ⟨?_, hQ _ _ _ _ hv hst⟩
    refine List.eq_nil_iff_forall_not_mem.2 fun i hi => ?_
    obtain ⟨o, ho, h1, _⟩ := ready_iff hi
    have := (hrest.mem i).2 ⟨(Array.getElem?_eq_some_iff.1 ho).1, h1⟩
    simp at this
  | m + 1, R, listed, φ, Γ, a, w, hl, hrest, hv, hst => by
    simp only [wpAny]
    refine ⟨fun hnil => ?_, fun i hi => ?_⟩
    · cases R with
      | nil => simp at hl
      | cons r R =>
        have := hrest.first
        rw [hnil] at this
        simp at this
    · obtain ⟨o, ho, hli, hdir⟩ := ready_iff hi
      have hmi : i ∈ R := (hrest.mem i).2 ⟨(Array.getElem?_eq_some_iff.1 ho).1, hli⟩
      obtain ⟨R1, R2, rfl⟩ := List.append_of_mem hmi
      obtain ⟨y, hy, htr⟩ := hsl i o ho
      have hTi : ∀ ys, T[i]? = some ys → ∀ z ∈ ys, listed.getD z false = true := fun ys hys z hz => by
        obtain ⟨o', ho', hall⟩ := hT i ys hys
        rw [ho] at ho'
        cases ho'
        rcases hall z hz with q | ⟨p, hp, zs, hzs, hz'⟩
        · exact hdir z q
        · exact hrest.inv p zs hzs (hdir p hp) z hz'
      have hpair := hrest.pair
      rw [List.pairwise_append] at hpair
      obtain ⟨hp1, hp2, hp3⟩ := hpair
      have hp2 := List.pairwise_cons.1 hp2
      have hd1 : ∀ x ∈ R1, mayPass (pk x) (pk i) = true ∧ dstEq (pk x).2 (pk i).2 = false := fun x hx => by
        obtain ⟨sx, sy, tj, h1, h2, h3, h4, h5⟩ := hp3 x hx i (by simp)
        rw [hpk x sx h1, hpk i sy h2]
        refine ⟨?_, h4⟩
        rcases h5 with q | q
        · exfalso
          have := hTi tj h3 x q
          have hx' := (hrest.mem x).1 (by simp [hx])
          have e : listed.getD x false = listed.getD x true := by
            have : x < listed.size := by rw [hrest.size]; exact hx'.1
            simp [Array.getD_eq_getD_getElem?, this]
          rw [e, hx'.2] at this
          cases this
        · exact q
      have hd2 : ∀ x ∈ R2, dstEq (pk x).2 (pk i).2 = false := fun x hx => by
        obtain ⟨sx, sy, tj, h1, h2, h3, h4, h5⟩ := hp2.1 x hx
        rw [hpk x sy h2, hpk i sx h1]
        simp only
        unfold dstEq at h4 ⊢
        cases h6 : sx.dst <;> cases h7 : sy.dst <;> simp_all
        exact fun q => h4 q.symm
      rw [List.map_append, List.map_cons] at hv
      have hb := bubble hK (R1.map pk) φ Γ (by
        intro x hx
        obtain ⟨j, hj, rfl⟩ := List.mem_map.1 hx
        exact hd1 j hj) (fun d hd => hrest.nb i (by simp) d hd) hv
      rw [hpk i y hy] at hb
      have hmv := vc1_move (dx := none) (s := .dead) (ψ := φ) (fun _ => rfl) rfl (fun _ q => by cases q) (fun _ q => by cases q) hb
      refine one_sound ho htr hmv hst ?_
      rintro ψ' Γ' a' w' ⟨φ', hk, hle, haf⟩ hst'
      have hk' : vcD P Γr ((R1 ++ R2).map pk) ψ' Γ' K := by
        rw [List.map_append]
        exact vcD_ext hK _ _ _ _ hle hk
      refine drawn_go hK hsl hpk hT hQ m (R1 ++ R2) _ ψ' Γ' a' w' (by simp at hl ⊢; omega) (hrest.drop ho hdir hTi (fun t ht => haf.1 t (by rw [hpk i y hy] at ht; exact ht)) ?_) hk' hst'
      intro j hj
      rcases List.mem_append.1 hj with q | q
      · exact (hd1 j q).2
      · exact hd2 j q

/-! trees of operations -/
def rmT (i : Nat) : DT Nat → Option (DT Nat)
  | .q x r => if x = i then some r else (rmT i r).map (.q x)
  | .alt e r s => if e = i then some r else rmT i s
  | _ => none
def vcN (P : Program) (Γr : Ctx) (pk : Nat → Bool × SOper) : DT Nat → Fr → Ctx → (Fr → Ctx → Prop) → Prop
  | .fin, φ, Γ, K => K φ Γ
  | .q x r, φ, Γ, K => vc1 P Γr (pk x).1 (pk x).2 φ Γ (fun φ' Γ' => vcN P Γr pk r φ' Γ' K)
  | .alt e r s, φ, Γ, K => vc1 P Γr (pk e).1 (pk e).2 φ Γ (fun φ' Γ' => vcN P Γr pk r φ' Γ' K) ∧ vcN P Γr pk s φ Γ K
  | .no, _, _, _ => True
theorem vcN_ext {pk : Nat → Bool × SOper} {K : Fr → Ctx → Prop} (hK : Ext K) : ∀ (t : DT Nat), Ext (fun φ Γ => vcN P Γr pk t φ Γ K)
  | .fin => hK
  | .q x r => fun φ ψ Γ hl h => vc1_ext (vcN_ext hK r) hl h
  | .alt e r s => fun φ ψ Γ hl h => ⟨vc1_ext (vcN_ext hK r) hl h.1, vcN_ext hK s φ ψ Γ hl h.2⟩
  | .no => fun _ _ _ _ _ => trivial
theorem vcT_vcN {pk : Nat → Bool × SOper} {K : Fr → Ctx → Prop} (hpk : ∀ (i : Nat) y, sl[i]? = some y → pk i = (E.contains i, y)) : ∀ (t : DT Nat) (u : DT (Bool × SOper)), pickT sl E t = some u → ∀ φ Γ, vcT P Γr u φ Γ K = vcN P Γr pk t φ Γ K
  | .fin, u, h, φ, Γ => by simp only [pickT, Option.some.injEq] at h; subst h; rfl
  | .no, u, h, φ, Γ => by simp only [pickT, Option.some.injEq] at h; subst h; rfl
  | .q x r, u, h, φ, Γ => by
    simp only [pickT] at h
    split at h
    · rename_i y t hy ht
      simp only [Option.some.injEq] at h
      subst h
      simp only [vcT, vcN, hpk x y hy]
      congr 1
      funext φ' Γ'
      exact vcT_vcN hpk r t ht φ' Γ'
    · cases h
  | .alt e r s, u, h, φ, Γ => by
    simp only [pickT] at h
    split at h
    · rename_i y t u' hy ht hu
      simp only [Option.some.injEq] at h
      subst h
      simp only [vcT, vcN, hpk e y hy, vcT_vcN hpk s u' hu]
      congr 2
      funext φ' Γ'
      exact vcT_vcN hpk r t ht φ' Γ'
    · cases h

theorem okT_sub : ∀ (t : DT Nat) (seen seen' : List Nat), (∀ i ∈ seen', i ∈ seen) → okT sl E T seen t = true → okT sl E T seen' t = true
  | .fin, _, _, _, _ => rfl
  | .no, _, _, _, _ => rfl
  | .q x r, seen, seen', hs, h => by
    simp only [okT, Bool.and_eq_true, List.all_eq_true] at h ⊢
    exact ⟨fun i hi => h.1 i (hs i hi), okT_sub r _ _ (fun i hi => by
      rcases List.mem_cons.1 hi with rfl | q
      · simp
      · simp [hs i q]) h.2⟩
  | .alt e r s, seen, seen', hs, h => by
    simp only [okT, Bool.and_eq_true, List.all_eq_true] at h ⊢
    exact ⟨⟨fun i hi => h.1.1 i (hs i hi), okT_sub r _ _ hs h.1.2⟩, okT_sub s _ _ hs h.2⟩
theorem rm_okT {i : Nat} : ∀ (t t' : DT Nat) (seen : List Nat), rmT i t = some t' → okT sl E T seen t = true → okT sl E T seen t' = true ∧ ∀ y ∈ seen, pairB sl E T y i = true
  | .fin, t', seen, h, _ => by simp [rmT] at h
  | .no, t', seen, h, _ => by simp [rmT] at h
  | .q x r, t', seen, h, hok => by
    simp only [rmT] at h
    have hok' := hok
    simp only [okT, Bool.and_eq_true, List.all_eq_true] at hok'
    split at h
    · rename_i e
      simp only [Option.some.injEq] at h
      subst h e
      exact ⟨okT_sub r _ _ (fun i hi => by simp [hi]) hok'.2, hok'.1⟩
    · simp only [Option.map_eq_some_iff] at h
      obtain ⟨r', hr, rfl⟩ := h
      obtain ⟨h1, h2⟩ := rm_okT r r' _ hr hok'.2
      simp only [okT, Bool.and_eq_true, List.all_eq_true]
      exact ⟨⟨hok'.1, h1⟩, fun y hy => h2 y (by simp [hy])⟩
  | .alt e r s, t', seen, h, hok => by
    simp only [rmT] at h
    simp only [okT, Bool.and_eq_true, List.all_eq_true] at hok
    split at h
    · rename_i e'
      simp only [Option.some.injEq] at h
      subst h e'
      exact ⟨hok.1.2, hok.1.1⟩
    · exact rm_okT s t' seen h hok.2

def inT (D : Nat → Prop) : DT Nat → Prop
  | .q x r => D x ∧ inT D r
  | .alt e r s => D e ∧ inT D r ∧ inT D s
  | _ => True
theorem cT_in {D : Nat → Prop} : ∀ (t : DT Nat) (c : Option (List Nat × List Nat)), cT T c t = true → (match c with | none => ∀ x ∈ opsT t, D x | some (_, O) => ∀ x ∈ O, D x) → inT D t
  | .fin, _, _, _ => trivial
  | .no, _, _, _ => trivial
  | .q x r, none, h, hD => by
    simp only [cT, Bool.and_eq_true] at h
    exact ⟨hD x (by simp [opsT]), cT_in r none h.2 (fun y hy => hD y (by simp [opsT, hy]))⟩
  | .q x r, some (H, O), h, hD => by simp [cT] at h
  | .alt e r s, none, h, hD => by
    simp only [cT, Bool.and_eq_true] at h
    exact ⟨hD e (by simp [opsT]), cT_in r none h.1.2 (fun y hy => hD y (by simp [opsT, hy])), cT_in s (some _) h.2 (fun y hy => hD y (by simpa [opsT] using hy))⟩
  | .alt e r s, some (H, O), h, hD => by
    simp only [cT, Bool.and_eq_true, List.all_eq_true] at h
    have hs : ∀ x ∈ e :: opsT r, x ∈ O := fun x hx => by simpa using h.1.1.2 x hx
    exact ⟨hD e (hs e (by simp)), cT_in r none h.1.2 (fun y hy => hD y (hs y (by simp [hy]))), cT_in s (some (H, O)) h.2 hD⟩
theorem cT_nodup : ∀ (t : DT Nat), cT T none t = true → (opsT t).Nodup
  | .fin, _ => by simp [opsT]
  | .no, _ => by simp [opsT]
  | .q x r, h => by
    simp only [cT, Bool.and_eq_true, Bool.not_eq_true'] at h
    exact List.nodup_cons.2 ⟨by simpa using h.1, cT_nodup r h.2⟩
  | .alt e r s, h => by
    simp only [cT, Bool.and_eq_true, Bool.not_eq_true'] at h
    exact List.nodup_cons.2 ⟨by simpa using h.1.1.1, cT_nodup r h.1.2⟩
/-- what is left -/
theorem rm_cT {i : Nat} : ∀ (t t' : DT Nat) (c : Option (List Nat × List Nat)), rmT i t = some t' → cT T c t = true → cT T none t' = true ∧ (match c with | none => (i :: opsT t').Perm (opsT t) | some (_, O) => O.Nodup → (i :: opsT t').Perm O)
  | .fin, t', _, h, _ => by simp [rmT] at h
  | .no, t', _, h, _ => by simp [rmT] at h
  | .q x r, t', none, h, hc => by
    simp only [rmT] at h
    simp only [cT, Bool.and_eq_true, Bool.not_eq_true'] at hc
    split at h
    · rename_i e
      simp only [Option.some.injEq] at h
      subst h e
      exact ⟨hc.2, List.Perm.refl _⟩
    · simp only [Option.map_eq_some_iff] at h
      obtain ⟨r', hr, rfl⟩ := h
      obtain ⟨h1, h2⟩ := rm_cT r r' none hr hc.2
      have hx : x ∉ opsT r := by simpa using hc.1
      refine ⟨?_, ?_⟩
      · simp only [cT, Bool.and_eq_true, Bool.not_eq_true']
        refine ⟨?_, h1⟩
        have : x ∉ opsT r' := fun q => hx (h2.mem_iff.1 (by simp [q]))
        simpa using this
      · exact (List.Perm.swap x i _).trans (h2.cons x)
  | .q x r, t', some (H, O), h, hc => by simp [cT] at hc
  | .alt e r s, t', none, h, hc => by
    simp only [rmT] at h
    have hnd := cT_nodup _ hc
    simp only [cT, Bool.and_eq_true, Bool.not_eq_true'] at hc
    split at h
    · rename_i e'
      simp only [Option.some.injEq] at h
      subst h e'
      exact ⟨hc.1.2, List.Perm.refl _⟩
    · obtain ⟨h1, h2⟩ := rm_cT s t' (some _) h hc.2
      exact ⟨h1, h2 hnd⟩
  | .alt e r s, t', some (H, O), h, hc => by
    simp only [rmT] at h
    simp only [cT, Bool.and_eq_true, Bool.not_eq_true', List.all_eq_true] at hc
    split at h
    · rename_i e'
      simp only [Option.some.injEq] at h
      subst h e'
      refine ⟨hc.1.2, fun hO => ?_⟩
      have hnd : (e :: opsT r).Nodup := List.nodup_cons.2 ⟨by simpa using hc.1.1.1.1, cT_nodup r hc.1.2⟩
      refine (List.perm_ext_iff_of_nodup hnd hO).2 fun x => ⟨fun q => ?_, fun q => ?_⟩
      · simpa using hc.1.1.2 x q
      · simpa using hc.1.1.1.2 x q
    · obtain ⟨h1, h2⟩ := rm_cT s t' (some (H, O)) h hc.2
      exact ⟨h1, h2⟩
theorem rm_head {i : Nat} : ∀ (t : DT Nat), i ∈ headsT t → ∃ t', rmT i t = some t'
  | .fin, h => by simp [headsT] at h
  | .no, h => by simp [headsT] at h
  | .q _ _, h => by simp [headsT] at h
  | .alt e r s, h => by
    simp only [rmT]
    split
    · exact ⟨_, rfl⟩
    · rename_i hne
      refine rm_head s ?_
      simp only [headsT, List.mem_cons] at h
      rcases h with q | q
      · exact absurd q.symm hne
      · exact q
theorem heads_in {O H : List Nat} : ∀ (t : DT Nat), cT T (some (H, O)) t = true → ∀ x ∈ headsT t, x ∈ O
  | .fin, h, x, hx => by simp [headsT] at hx
  | .no, h, x, hx => by simp [headsT] at hx
  | .q _ _, h, x, hx => by simp [headsT] at hx
  | .alt e r s, h, x, hx => by
    simp only [cT, Bool.and_eq_true, List.all_eq_true] at h
    simp only [headsT, List.mem_cons] at hx
    rcases hx with rfl | q
    · simpa using h.1.1.2 x (by simp)
    · exact heads_in s h.2 x q
/-- what may come up is there -/
theorem rm_there {i : Nat} : ∀ (t : DT Nat), cT T none t = true → i ∈ opsT t → (∀ x ∈ opsT t, ∀ ti, T[i]? = some ti → x ∉ ti) → ∃ t', rmT i t = some t'
  | .fin, _, h, _ => by simp [opsT] at h
  | .no, _, h, _ => by simp [opsT] at h
  | .q x r, hc, h, hT => by
    simp only [rmT]
    simp only [cT, Bool.and_eq_true, Bool.not_eq_true'] at hc
    split
    · exact ⟨_, rfl⟩
    · rename_i hne
      simp only [opsT, List.mem_cons] at h
      rcases h with q | q
      · exact absurd q.symm hne
      · obtain ⟨t', ht⟩ := rm_there r hc.2 q (fun y hy => hT y (by simp [opsT, hy]))
        exact ⟨_, by rw [ht]; rfl⟩
  | .alt e r s, hc, h, hT => by
    by_cases hh : i ∈ headsT (.alt e r s)
    · exact rm_head _ hh
    · exfalso
      simp only [cT, Bool.and_eq_true, List.all_eq_true] at hc
      simp only [opsT, List.mem_cons] at h
      rcases h with q | q
      · exact hh (by simp [headsT, q])
      · have h1 := hc.1.1.2 i q
        simp only [Bool.or_eq_true] at h1
        rcases h1 with h1 | h1
        · exact hh (by simpa [headsT] using h1)
        · split at h1
          · rename_i ti hti
            simp only [List.any_eq_true] at h1
            obtain ⟨z, hz, hz2⟩ := h1
            refine hT z ?_ ti hti (by simpa using hz2)
            simp only [List.mem_cons] at hz
            rcases hz with rfl | hz
            · simp [opsT]
            · simpa [opsT] using heads_in s hc.2 z hz
          · cases h1

/-- what comes up first -/
theorem rm_vcN {pk : Nat → Bool × SOper} {K : Fr → Ctx → Prop} (hK : Ext K) (hpk : ∀ (i : Nat) y, sl[i]? = some y → pk i = (E.contains i, y)) {i : Nat} {D : Nat → Prop} (hT : ∀ ti, T[i]? = some ti → ∀ x ∈ ti, ¬ D x) :
    ∀ (t t' : DT Nat) (seen : List Nat), rmT i t = some t' → okT sl E T seen t = true → inT D t → (∀ x, D x → x ≠ i → ∀ d, (pk i).2.dst = some d → (pk x).2.dst ≠ some d) → ∀ φ Γ, (∀ d, (pk i).2.dst = some d → isBox (look φ d) = false) → vcN P Γr pk t φ Γ K →
      vc1 P Γr (pk i).1 (pk i).2 φ Γ (fun φ' Γ' => vcN P Γr pk t' φ' Γ' K)
  | .fin, t', seen, h, _, _, _, _, _, _, _ => by simp [rmT] at h
  | .no, t', seen, h, _, _, _, _, _, _, _ => by simp [rmT] at h
  | .q x r, t', seen, h, hok, hD, hdst, φ, Γ, hb, hv => by
    simp only [rmT] at h
    simp only [okT, Bool.and_eq_true, List.all_eq_true] at hok
    split at h
    · rename_i e
      simp only [Option.some.injEq] at h
      subst h e
      exact hv
    · rename_i hne
      simp only [Option.map_eq_some_iff] at h
      obtain ⟨r', hr, rfl⟩ := h
      have hp := (rm_okT r r' _ hr hok.2).2 x (by simp)
      unfold pairB at hp
      split at hp
      · rename_i sx si ti h1 h2 h3
        simp only [Bool.and_eq_true, Bool.not_eq_true', Bool.or_eq_true] at hp
        have hxD : D x := hD.1
        have hm : mayPass (E.contains x, sx) (E.contains i, si) = true := by
          rcases hp.2 with q | q
          · exact absurd hxD (hT ti h3 x (by simpa using q))
          · exact q
        have hd := hdst x hxD hne
        have ex := hpk x sx h1
        have ei := hpk i si h2
        simp only [vcN] at hv ⊢
        have hm' := hm
        unfold mayPass at hm'
        simp only [Bool.and_eq_true, Bool.not_eq_true'] at hm'
        rw [ex] at hv
        obtain ⟨s, hs, hk, hans⟩ := vc1_quiet hm'.1.1.1 hv
        have ih := rm_vcN hK hpk hT r r' _ hr hok.2 hD.2 hdst (put φ sx.dst s) Γ (fun d q => by
          rw [look_put, if_neg (fun r => hd d q (by rw [ex]; exact r))]
          exact hb d q) hk
        rw [ei] at ih ⊢
        rw [ex]
        exact vc1_swap (x := (E.contains x, sx)) (y := (E.contains i, si)) (vcN_ext hK r') hm hp.1 (fun d q => hb d (by rw [ei]; exact q)) (hans φ Γ (fun _ _ => rfl) (fun _ _ _ => rfl) (fun _ _ hc => hc) (fun φ1 Γ1 => vc1 P Γr (E.contains i) si φ1 Γ1 (fun φ' Γ' => vcN P Γr pk r' φ' Γ' K)) ih)
      · cases hp
  | .alt e r s, t', seen, h, hok, hD, hdst, φ, Γ, hb, hv => by
    simp only [rmT] at h
    simp only [okT, Bool.and_eq_true, List.all_eq_true] at hok
    split at h
    · rename_i e'
      simp only [Option.some.injEq] at h
      subst h e'
      exact hv.1
    · exact rm_vcN hK hpk hT s t' seen h hok.2 hD.2.2 hdst φ Γ hb hv.2

structure RestT (φ : Fr) (ops : Array Oper) (sl : List SOper) (E : List Nat) (T : List (List Nat)) (pk : Nat → Bool × SOper) (listed : Array Bool) (t : DT Nat) : Prop where
  size : listed.size = ops.size
  mem : ∀ i, i ∈ opsT t ↔ i < ops.size ∧ listed.getD i true = false
  ok : okT sl E T [] t = true
  c : cT T none t = true
  inv : ∀ (k : Nat) ys, T[k]? = some ys → listed.getD k false = true → ∀ y ∈ ys, listed.getD y false = true
  nb : ∀ i ∈ opsT t, ∀ d, (pk i).2.dst = some d → isBox (look φ d) = false

theorem depsOk_spec : ∀ (l : List Oper) (j : Nat), depsOk j l = true → ∀ (k : Nat) o, l[k]? = some o → ∀ p ∈ direct o, p < j + k
  | [], j, _, k, o, h => by simp at h
  | x :: l, j, h, k, o, hk => by
    simp only [depsOk, Bool.and_eq_true, List.all_eq_true, decide_eq_true_eq] at h
    cases k with
    | zero => simp at hk; subst hk; exact fun p hp => h.1 p hp
    | succ k =>
      have := depsOk_spec l (j + 1) h.2 k o (by simpa using hk)
      intro p hp
      have := this p hp
      omega
theorem least_mem : ∀ (l : List Nat), l ≠ [] → ∃ i ∈ l, ∀ j ∈ l, i ≤ j
  | [], h => absurd rfl h
  | [x], _ => ⟨x, by simp, by simp⟩
  | x :: y :: r, _ => by
    obtain ⟨i, hi, hm⟩ := least_mem (y :: r) (by simp)
    by_cases h : x ≤ i
    · exact ⟨x, by simp, fun j hj => by
        rcases List.mem_cons.1 hj with rfl | q
        · exact Nat.le_refl _
        · exact Nat.le_trans h (hm j q)⟩
    · exact ⟨i, by simp [List.mem_cons.1 hi], fun j hj => by
        rcases List.mem_cons.1 hj with rfl | q
        · omega
        · exact hm j q⟩
theorem tree_go {pk : Nat → Bool × SOper} {K : Fr → Ctx → Prop} (hK : Ext K) (hsl : ∀ (i : Nat) o, ops[i]? = some o → ∃ y, sl[i]? = some y ∧ trOper P n locs ops o = some y) (hpk : ∀ (i : Nat) y, sl[i]? = some y → pk i = (E.contains i, y))
    (hdeps : ∀ (k : Nat) o, ops[k]? = some o → ∀ p ∈ direct o, p < k)
    (hdst : ∀ i j, i < ops.size → j < ops.size → i ≠ j → ∀ d, (pk i).2.dst = some d → (pk j).2.dst ≠ some d)
    (hT : ∀ (k : Nat) ys, T[k]? = some ys → ∃ o, ops[k]? = some o ∧ ∀ y ∈ ys, y ∈ direct o ∨ ∃ p ∈ direct o, ∃ zs, T[p]? = some zs ∧ y ∈ zs)
    (hQ : ∀ φ Γ a w, K φ Γ → St n Γr Γm w0 φ Γ a w → Q .normal a w) :
    ∀ (m : Nat) (t : DT Nat) (listed : Array Bool) φ Γ a w, (opsT t).length = m → RestT φ ops sl E T pk listed t → vcN P Γr pk t φ Γ K → St n Γr Γm w0 φ Γ a w → wpAny P .any ops Q m listed a w
  | 0, t, listed, φ, Γ, a, w, hl, hrest, hv, hst => by
    have hnil := List.eq_nil_of_length_eq_zero hl
    have htf : t = .fin := by
      cases t with
      | fin => rfl
      | q x r => simp [opsT] at hnil
      | alt e r s => simp [opsT] at hnil
      | no => have := hrest.c; simp [cT] at this
    subst htf
    refine ⟨?_, hQ _ _ _ _ hv hst⟩
    refine List.eq_nil_iff_forall_not_mem.2 fun i hi => ?_
    obtain ⟨o, ho, h1, _⟩ := ready_iff hi
    have := (hrest.mem i).2 ⟨(Array.getElem?_eq_some_iff.1 ho).1, h1⟩
    simp [opsT] at this
  | m + 1, t, listed, φ, Γ, a, w, hl, hrest, hv, hst => by
    simp only [wpAny]
    have step : ∀ i ∈ Region.ready .any ops listed, wpOp P ops Q i (wpAny P .any ops Q m (listed.setIfInBounds i true)) a w := by
      intro i hi
      obtain ⟨o, ho, hli, hdir⟩ := ready_iff hi
      have hmi : i ∈ opsT t := (hrest.mem i).2 ⟨(Array.getElem?_eq_some_iff.1 ho).1, hli⟩
      obtain ⟨y, hy, htr⟩ := hsl i o ho
      have hTi : ∀ ys, T[i]? = some ys → ∀ z ∈ ys, listed.getD z false = true := fun ys hys z hz => by
        obtain ⟨o', ho', hall⟩ := hT i ys hys
        rw [ho] at ho'
        cases ho'
        rcases hall z hz with q | ⟨p, hp, zs, hzs, hz'⟩
        · exact hdir z q
        · exact hrest.inv p zs hzs (hdir p hp) z hz'
      have hnot : ∀ x, x ∈ opsT t → ¬ listed.getD x false = true := fun x hx q => by
        have hx' := (hrest.mem x).1 hx
        have e : listed.getD x false = listed.getD x true := by
          have : x < listed.size := by rw [hrest.size]; exact hx'.1
          simp [Array.getD_eq_getD_getElem?, this]
        rw [e, hx'.2] at q
        cases q
      obtain ⟨t', ht'⟩ := rm_there t hrest.c hmi (fun x hx ti hti q => hnot x hx (hTi ti hti x q))
      obtain ⟨hc', hperm⟩ := rm_cT t t' none ht' hrest.c
      simp only at hperm
      have hok' := (rm_okT t t' [] ht' hrest.ok).1
      have hlt : ∀ x ∈ opsT t, x < ops.size := fun x hx => ((hrest.mem x).1 hx).1
      have hb := rm_vcN (D := fun x => x ∈ opsT t) hK hpk (fun ti hti x hx q => hnot x q (hTi ti hti x hx)) t t' [] ht' hrest.ok (cT_in t none hrest.c (fun x hx => hx))
        (fun x hx hne d hd => hdst i x (hlt i hmi) (hlt x hx) (fun q => hne q.symm) d hd) φ Γ (hrest.nb i hmi) hv
      rw [hpk i y hy] at hb
      have hmv := vc1_move (dx := none) (s := .dead) (ψ := φ) (fun _ => rfl) rfl (fun _ q => by cases q) (fun _ q => by cases q) hb
      refine one_sound ho htr hmv hst ?_
      rintro ψ' Γ' a' w' ⟨φ', hk, hle, haf⟩ hst'
      have hk' : vcN P Γr pk t' ψ' Γ' K := vcN_ext hK t' _ _ _ hle hk
      have hlen : (opsT t').length = m := by
        have := hperm.length_eq
        simp at this
        omega
      have hi' : i < listed.size := by rw [hrest.size]; exact (Array.getElem?_eq_some_iff.1 ho).1
      have hnd := hperm.nodup_iff.2 (cT_nodup t hrest.c)
      have hni := (List.nodup_cons.1 hnd).1
      refine tree_go hK hsl hpk hdeps hdst hT hQ m t' _ ψ' Γ' a' w' hlen ⟨by simp [hrest.size], fun j => ?_, hok', hc', fun k ys hk2 hl2 z hz => ?_, fun j hj d hd => ?_⟩ hk' hst'
      · rw [getD_set hi']
        by_cases e : i = j
        · subst e; simp [hni]
        · rw [if_neg e, ← hrest.mem j, ← hperm.mem_iff, List.mem_cons]
          constructor
          · exact fun q => .inr q
          · rintro (q | q)
            · exact absurd q.symm e
            · exact q
      · rw [getD_set hi'] at hl2 ⊢
        by_cases e : i = z
        · rw [if_pos e]
        rw [if_neg e]
        by_cases e' : i = k
        · subst e'
          exact hTi ys hk2 z hz
        · rw [if_neg e'] at hl2
          exact hrest.inv k ys hk2 hl2 z hz
      · have hjt : j ∈ opsT t := hperm.mem_iff.1 (by simp [hj])
        have hij : i ≠ j := fun q => by subst q; exact hni hj
        have hne : y.dst ≠ some d := fun q => hdst i j (hlt i hmi) (hlt j hjt) hij d (by rw [hpk i y hy]; exact q) hd
        rw [bare_isBox (haf.1 d hne)]
        exact hrest.nb j hjt d hd
    refine ⟨fun hnil => ?_, step⟩
    -- something may come up
    exfalso
    obtain ⟨i, hi, hmin⟩ : ∃ i, i ∈ opsT t ∧ ∃ o, ops[i]? = some o ∧ ∀ p ∈ direct o, listed.getD p false = true := by
      obtain ⟨i, hi, hmin⟩ := least_mem (opsT t) (fun q => by rw [q] at hl; simp at hl)
      have hlt := ((hrest.mem i).1 hi).1
      refine ⟨i, hi, ops[i], Array.getElem?_eq_getElem hlt, fun p hp => ?_⟩
      have hpi := hdeps i _ (Array.getElem?_eq_getElem hlt) p hp
      have hnp : p ∉ opsT t := fun q => by have := hmin p q; omega
      have hps : p < ops.size := by omega
      have hpl : p < listed.size := by rw [hrest.size]; exact hps
      have h1 : ¬ listed.getD p true = false := fun q => hnp ((hrest.mem p).2 ⟨hps, q⟩)
      have e : listed.getD p false = listed.getD p true := by simp [Array.getD_eq_getD_getElem?, hpl]
      rw [e]
      simpa using h1
    obtain ⟨o, ho, hp⟩ := hmin
    have := ready_mk ho ((hrest.mem i).1 hi).2 hp
    rw [hnil] at this
    simp at this
end
end Go.Proofs.Ytniobbepliknmaa.V
