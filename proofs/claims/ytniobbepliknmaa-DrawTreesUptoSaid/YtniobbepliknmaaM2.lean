/- Texts put together, in the order in which they build; each says what it proves; no condition. -/
import Derived.Test.YtniobbepliknmaaM1
import Derived.Orders
import Derived.Deep.LoopGhost
import Derived.Test.YtniobbepliknmaaRows
import Derived.WalkKit
import Derived.ProofKit
import Derived.OpenShut
import Derived.JoinedCond
import Derived.Carry
namespace Go.Proofs.Ytniobbepliknmaa.V
open Go
set_option linter.unusedVariables false
set_option linter.unusedSimpArgs false
/- Operations whose order is drawn may be gone through in one order; no condition. -/
/-- what an operand sees of a slot -/
def bare : Sl → Sl
  | .box b T _ => .box b T []
  | x => x
def SameOn (S : List Nat) (φ ψ : Fr) : Prop := ∀ t ∈ S, bare (look ψ t) = bare (look φ t)
def LookEq (φ ψ : Fr) : Prop := ∀ t, look φ t = look ψ t
def Ext (K : Fr → Ctx → Prop) : Prop := ∀ φ ψ Γ, LookEq φ ψ → K φ Γ → K ψ Γ

theorem bare_val (x : Sl) : (bare x).val = x.val := by cases x <;> rfl
theorem val_same {φ ψ : Fr} {x : Operand} (h : SameOn (rdO x) φ ψ) : val ψ x = val φ x := by
  cases x with
  | tmp t =>
    simp only [val]
    rw [← bare_val, h t (by simp [rdO]), bare_val]
  | _ => rfl
theorem slotOf_same {φ ψ : Fr} {e : Bool} {x : Operand} (h : SameOn (rdO x) φ ψ) : slotOf ψ e x = slotOf φ e x := by
  cases x with
  | tmp t =>
    have := h t (by simp [rdO])
    simp only [slotOf]
    cases h1 : look φ t <;> cases h2 : look ψ t <;> simp_all [bare]
  | _ => rfl
theorem gd_same {φ ψ : Fr} {g : Option (Nat × Bool)} (h : SameOn (rdG g) φ ψ) : gd ψ g = gd φ g := by
  cases g with
  | none => rfl
  | some g =>
    obtain ⟨t, want⟩ := g
    have := h t (by simp [rdG])
    simp only [gd]
    cases h1 : look φ t <;> cases h2 : look ψ t <;> simp_all [bare]
theorem SameOn.left {S T : List Nat} {φ ψ : Fr} (h : SameOn (S ++ T) φ ψ) : SameOn S φ ψ := fun t ht => h t (by simp [ht])
theorem SameOn.right {S T : List Nat} {φ ψ : Fr} (h : SameOn (S ++ T) φ ψ) : SameOn T φ ψ := fun t ht => h t (by simp [ht])
theorem vals_same {φ ψ : Fr} : ∀ {l : List Operand}, SameOn (rdL l) φ ψ → vals ψ l = vals φ l
  | [], _ => rfl
  | x :: r, h => by simp only [vals]; rw [val_same h.left, vals_same h.right]
theorem allOn_same {φ ψ : Fr} {e : Bool} : ∀ {l : List Operand}, SameOn (rdL l) φ ψ → allOn ψ e l = allOn φ e l
  | [], _ => rfl
  | x :: r, h => by simp only [allOn]; rw [val_same h.left, allOn_same h.right]
theorem partVals_same {φ ψ : Fr} : ∀ {l : List (Nat × Nat × Operand)}, SameOn (rdP l) φ ψ → partVals ψ l = partVals φ l
  | [], _ => rfl
  | (_, _, x) :: r, h => by simp only [partVals]; rw [val_same h.left, partVals_same h.right]
theorem partOn_same {φ ψ : Fr} {e : Bool} : ∀ {l : List (Nat × Nat × Operand)}, SameOn (rdP l) φ ψ → partOn ψ e l = partOn φ e l
  | [], _ => rfl
  | (_, _, x) :: r, h => by simp only [partOn]; rw [val_same h.left, partOn_same h.right]
theorem bnd_same {φ ψ : Fr} {x : Option Operand} {l d : Nat} (h : SameOn (rdB x) φ ψ) : bnd ψ x l d = bnd φ x l d := by
  cases x with
  | none => rfl
  | some y => simp only [bnd]; rw [val_same (x := y) h]

theorem pure_same {φ ψ : Fr} {e : Bool} {op : SOp} {k : Sl → Prop} (h : SameOn (rd op) φ ψ) : pureV ψ e op k = pureV φ e op k := by
  cases op <;> simp only [rd] at h <;> simp only [pureV] <;> try rfl
  case mv x => rw [val_same h, slotOf_same h]
  case pick c a b => rw [val_same h.left, val_same h.right.left, val_same h.right.right]
  case ibin op x y => rw [val_same h.left, val_same h.right]
  case sbin op x y => rw [val_same h.left, val_same h.right]
  case beq n x y => rw [val_same h.left, val_same h.right]
  case nilq kd n x y => rw [val_same h.left, val_same h.right]
  case un op x => rw [val_same h]
  case conv k x => rw [val_same h]
  case fld o x => rw [val_same h, slotOf_same h]
  case nilCheck x => rw [val_same h, slotOf_same h]
  case field a o n x => rw [val_same h]
  case len s x => rw [val_same h]
  case extract i x => rw [val_same h]
  case mkFunc f l => rw [vals_same h, allOn_same h]
  case build t z l => rw [partOn_same h, partVals_same h]
  case fn c l => simp only [vals_same h, allOn_same h]

theorem isBox_slotOf (φ : Fr) (e : Bool) (x : Operand) : isBox (slotOf φ e x) = false := by
  have := slotOf_notBox φ e x
  cases h : slotOf φ e x <;> simp_all [notBox, isBox]

/-- what a pure operation answers -/
theorem pure_split {φ : Fr} {e : Bool} {op : SOp} {k : Sl → Prop} (h : pureV φ e op k) : ∃ s, isBox s = false ∧ k s ∧ ∀ k', k' s → pureV φ e op k' := by
  cases op <;> simp only [pureV] at h ⊢
  case mv x => exact ⟨_, isBox_slotOf _ _ _, h.2, fun k' hk => ⟨h.1, hk⟩⟩
  case pick c a b =>
    split at h
    · obtain ⟨h1, h2, h3, h4⟩ := h; exact ⟨_, rfl, h4, fun k' hk => ⟨h1, h2, h3, hk⟩⟩
    · exact h.elim
  case ibin op x y =>
    split at h
    · obtain ⟨h1, h2, h3, h4, h5⟩ := h; exact ⟨_, rfl, h5, fun k' hk => ⟨h1, h2, h3, h4, hk⟩⟩
    · exact h.elim
  case sbin op x y =>
    split at h
    · obtain ⟨r, h1, h2, h3, h4⟩ := h; exact ⟨_, rfl, h4, fun k' hk => ⟨r, h1, h2, h3, hk⟩⟩
    · exact h.elim
  case beq n x y =>
    split at h
    · obtain ⟨h1, h2, h3⟩ := h; exact ⟨_, rfl, h3, fun k' hk => ⟨h1, h2, hk⟩⟩
    · exact h.elim
  case nilq kd n x y => obtain ⟨h1, h2, r, h3, h4, h5⟩ := h; exact ⟨_, rfl, h5, fun k' hk => ⟨h1, h2, r, h3, h4, hk⟩⟩
  case un op x => obtain ⟨r, h1, h2, h3⟩ := h; exact ⟨_, rfl, h3, fun k' hk => ⟨r, h1, h2, hk⟩⟩
  case conv k x =>
    split at h
    · exact ⟨_, rfl, h.2, fun k' hk => ⟨h.1, hk⟩⟩
    · exact h.elim
  case fld o x =>
    split at h
    · exact ⟨_, rfl, h.2, fun k' hk => ⟨h.1, hk⟩⟩
    · exact ⟨_, rfl, h.2, fun k' hk => ⟨h.1, hk⟩⟩
    · exact h.elim
  case nilCheck x =>
    split at h
    · exact ⟨_, rfl, h.2, fun k' hk => ⟨h.1, hk⟩⟩
    · exact ⟨_, rfl, h.2, fun k' hk => ⟨h.1, hk⟩⟩
    · exact ⟨_, rfl, h.2, fun k' hk => ⟨h.1, hk⟩⟩
    · exact h.elim
  case field a o n x =>
    split at h
    · obtain ⟨h1, h2, h3, h4⟩ := h; exact ⟨_, rfl, h4, fun k' hk => ⟨h1, h2, h3, hk⟩⟩
    · exact h.elim
  case len s x => obtain ⟨r, h1, h2, h3⟩ := h; exact ⟨_, rfl, h3, fun k' hk => ⟨r, h1, h2, hk⟩⟩
  case extract i x =>
    split at h
    · obtain ⟨r, h1, h2, h3⟩ := h; exact ⟨_, rfl, h3, fun k' hk => ⟨r, h1, h2, hk⟩⟩
    · exact h.elim
  case mkFunc f l => exact ⟨_, rfl, h.2, fun k' hk => ⟨h.1, hk⟩⟩
  case build t z l => exact ⟨_, rfl, h.2.2, fun k' hk => ⟨h.1, h.2.1, hk⟩⟩
  case fn c l => obtain ⟨r, h1, h2⟩ := h; exact ⟨_, rfl, h2, fun k' hk => ⟨r, h1, hk⟩⟩
  all_goals exact h.elim

/-- what an asking operation answers; and in another frame and memory that look the same -/
theorem Cells.sub {Γ Γ' : Ctx} {b o : Nat} {vs : List Value} (hc : Cells Γ b o vs) (h : ∀ g ∈ Γ, g ∈ Γ') : Cells Γ' b o vs := by
  obtain ⟨g, hg, r⟩ := hc
  exact ⟨g, h g hg, r⟩
theorem QR.sub {P : Program} {Γ Γ' : Ctx} {c : Qk} {vs : List Value} {r : Value} (hc : QR P c vs Γ r) (h : ∀ g ∈ Γ, g ∈ Γ') : QR P c vs Γ' r :=
  fun w hw => hc w fun g hg => hw g (h g hg)
theorem ask_split {P : Program} {φ : Fr} {Γ : Ctx} {e : Bool} {op : SOp} {k : Sl → Prop} (h : askV P Γ φ e op k) :
    ∃ s, isBox s = false ∧ k s ∧ ∀ ψ Γ', SameOn (rd op) φ ψ → (isLoad op = true → ∀ t, isBox (look φ t) = true → look ψ t = look φ t) → (isLoad op = true → ∀ g ∈ Γ, g ∈ Γ') →
      ∀ k', k' s → askV P Γ' ψ e op k' := by
  cases op <;> simp only [askV] at h ⊢
  case idiv op x y =>
    split at h
    · obtain ⟨h1, h2, h3, h4⟩ := h
      rename_i e1 e2
      refine ⟨_, rfl, h4, fun ψ Γ' hs _ _ k' hk => ?_⟩
      simp only [rd] at hs
      rw [val_same hs.left, val_same hs.right, e1, e2]
      exact ⟨h1, h2, h3, hk⟩
    · exact h.elim
  case ishift op x y =>
    split at h
    · obtain ⟨h1, h2, h4⟩ := h
      rename_i e1 e2
      refine ⟨_, rfl, h4, fun ψ Γ' hs _ _ k' hk => ?_⟩
      simp only [rd] at hs
      rw [val_same hs.left, val_same hs.right, e1, e2]
      exact ⟨h1, h2, hk⟩
    · exact h.elim
  case idx sz x i =>
    split at h
    · obtain ⟨b, o, h1, h4⟩ := h
      rename_i e1 e2
      refine ⟨_, rfl, h4, fun ψ Γ' hs _ _ k' hk => ?_⟩
      simp only [rd] at hs
      rw [val_same hs.left, val_same hs.right, e1, e2]
      exact ⟨b, o, h1, hk⟩
    · exact h.elim
  case idxA len sz x i =>
    split at h
    · rename_i e1 e2
      refine ⟨_, rfl, h.2, fun ψ Γ' hs _ _ k' hk => ?_⟩
      simp only [rd] at hs
      rw [slotOf_same hs.left, val_same hs.right, e1, e2, val_same hs.left]
      exact ⟨h.1, hk⟩
    · rename_i e1 e2
      refine ⟨_, rfl, h.2, fun ψ Γ' hs _ _ k' hk => ?_⟩
      simp only [rd] at hs
      rw [slotOf_same hs.left, val_same hs.right, e1, e2, val_same hs.left]
      exact ⟨h.1, hk⟩
    · exact h.elim
  case load agg n x =>
    split at h
    · rename_i e1
      split at h
      · rename_i e2
        obtain ⟨h1, h2, h3, h4, h5⟩ := h
        refine ⟨_, rfl, h5, fun ψ Γ' hs hb _ k' hk => ?_⟩
        simp only [rd] at hs
        rw [slotOf_same hs, e1, val_same hs]
        simp only [hb rfl _ (by rw [e2]; rfl), e2]
        exact ⟨h1, h2, h3, h4, hk⟩
      · exact h.elim
    · rename_i e1
      obtain ⟨h1, vs, h2, h3, h4⟩ := h
      refine ⟨_, rfl, h4, fun ψ Γ' hs _ hc k' hk => ?_⟩
      simp only [rd] at hs
      rw [slotOf_same hs, e1, val_same hs]
      exact ⟨h1, vs, h2, fun he => ⟨(h3 he).1, (h3 he).2.sub (hc rfl)⟩, hk⟩
    · exact h.elim
  case slc sz x lo hi mx =>
    cases mx with
    | some m => exact h.elim
    | none =>
      simp only at h
      split at h
      · obtain ⟨l, m, h1, h4⟩ := h
        rename_i e1
        refine ⟨_, rfl, h4, fun ψ Γ' hs _ _ k' hk => ?_⟩
        simp only [rd] at hs
        dsimp only
        rw [val_same hs.left, e1]
        refine ⟨l, m, fun he => ?_, hk⟩
        rw [bnd_same hs.right.left, bnd_same hs.right.right]
        exact h1 he
      · exact h.elim
  case q c xs =>
    obtain ⟨r, h1, h2⟩ := h
    refine ⟨_, rfl, h2, fun ψ Γ' hs _ hc k' hk => ?_⟩
    simp only [rd] at hs
    rw [vals_same hs, allOn_same hs]
    exact ⟨r, fun he => ⟨(h1 he).1, (h1 he).2.sub (hc rfl)⟩, hk⟩
  case loadB q agg n x =>
    obtain ⟨h0, h⟩ := h
    split at h
    · rename_i e1
      split at h
      · rename_i e2
        obtain ⟨h1, h2, h3, h4, h5⟩ := h
        refine ⟨_, rfl, h5, fun ψ Γ' hs hb _ k' hk => ?_⟩
        simp only [rd] at hs
        rw [slotOf_same hs]
        refine ⟨h0, ?_⟩
        rw [e1, val_same hs]
        simp only [hb rfl _ (by rw [e2]; rfl), e2]
        exact ⟨h1, h2, h3, h4, hk⟩
      · exact h.elim
    · rename_i e1
      obtain ⟨h1, vs, h2, h3, h4⟩ := h
      refine ⟨_, rfl, h4, fun ψ Γ' hs _ hc k' hk => ?_⟩
      simp only [rd] at hs
      rw [slotOf_same hs]
      refine ⟨h0, ?_⟩
      rw [e1, val_same hs]
      exact ⟨h1, vs, h2, fun he => ⟨(h3 he).1, (h3 he).2.sub (hc rfl)⟩, hk⟩
    · exact h.elim
  all_goals exact h.elim

theorem look_put (φ : Fr) (d : Option Nat) (x : Sl) (t : Nat) : look (put φ d x) t = if d = some t then x else look φ t := by
  cases d with
  | none => simp [put]
  | some d =>
    simp only [put, look_cons, Option.some.injEq]
theorem look_upd (φ : Fr) (s t : Nat) (cs : List Value) : look (updBox φ s cs) t = if s = t then (match look φ t with | .box b T _ => .box b T cs | x => x) else look φ t := by
  induction φ with
  | nil => simp [updBox, look]
  | cons x r ih =>
    obtain ⟨k, x⟩ := x
    simp only [updBox]
    by_cases hk : k = s
    · subst hk
      simp only [beq_self_eq_true, cond_true]
      by_cases hkt : k = t
      · subst hkt
        cases x <;> simp [look]
      · have : (k == t) = false := by simpa using hkt
        cases x <;> simp [look, this, hkt]
    · have h1 : (k == s) = false := by simpa using hk
      simp only [h1, cond_false, look]
      by_cases hkt : k = t
      · subst hkt
        have : ¬ s = k := fun q => hk q.symm
        simp [this]
      · have h2 : (k == t) = false := by simpa using hkt
        simp only [h2, cond_false, ih]

theorem lookEq_put {φ ψ : Fr} {dx dy : Option Nat} {s x : Sl} (h : LookEq φ (put ψ dx s)) (hd : ∀ d, dx = some d → dy ≠ some d) : LookEq (put φ dy x) (put (put ψ dy x) dx s) := by
  intro t
  rw [look_put, look_put, look_put, h t, look_put]
  by_cases h1 : dy = some t
  · by_cases h2 : dx = some t
    · exact absurd h1 (hd t h2)
    · simp [h1, h2]
  · simp [h1]
theorem sameOn_put {S : List Nat} {φ ψ : Fr} {dx : Option Nat} {s : Sl} (h : LookEq φ (put ψ dx s)) (hS : ∀ d, dx = some d → d ∉ S) : SameOn S φ ψ := by
  intro t ht
  rw [h t, look_put, if_neg (fun q => hS t q ht)]

def After (Γr : Ctx) (dy : Option Nat) (m : Nat) (ψ ψ' : Fr) (Γ Γ' : Ctx) : Prop :=
  (∀ t, dy ≠ some t → bare (look ψ' t) = bare (look ψ t)) ∧ (m ≠ 2 → ∀ t, dy ≠ some t → look ψ' t = look ψ t) ∧ (m = 0 → ∀ g ∈ Γ ++ Γr, g ∈ Γ' ++ Γr)
theorem after_put {Γr : Ctx} {dy : Option Nat} {m : Nat} {ψ : Fr} {x : Sl} {Γ Γ' : Ctx} (h : m = 0 → ∀ g ∈ Γ ++ Γr, g ∈ Γ' ++ Γr) : After Γr dy m ψ (put ψ dy x) Γ Γ' :=
  ⟨fun t ht => by rw [look_put, if_neg ht], fun _ t ht => by rw [look_put, if_neg ht], h⟩
theorem mem_cons' {g h : PH} {Γ Γr : Ctx} (hg : g ∈ Γ ++ Γr) : g ∈ (h :: Γ) ++ Γr := List.mem_cons_of_mem _ hg
theorem cells_cons {h : PH} {Γ : Ctx} {b o : Nat} {vs : List Value} (hc : Cells Γ b o vs) : Cells (h :: Γ) b o vs := by
  obtain ⟨g, hg, r⟩ := hc
  exact ⟨g, by simp [hg], r⟩

theorem eff_move {P : Program} {Γr Γ : Ctx} {φ ψ : Fr} {dx dy : Option Nat} {s : Sl} {op : SOp} {k : Fr → Ctx → Prop} (hrel : LookEq φ (put ψ dx s)) (hs : isBox s = false)
    (hrd : ∀ d, dx = some d → d ∉ rd op) (hdd : ∀ d, dx = some d → dy ≠ some d) (h : effV P Γr φ Γ dy op k) :
    effV P Γr ψ Γ dy op (fun ψ' Γ' => ∃ φ', k φ' Γ' ∧ LookEq φ' (put ψ' dx s) ∧ After Γr dy (modi op) ψ ψ' Γ Γ') := by
  have hsm : SameOn (rd op) φ ψ := sameOn_put hrel hrd
  cases op <;> simp only [rd] at hsm
  case box loc T x =>
    cases loc <;> simp only [effV] at h ⊢ <;> rw [val_same hsm]
    · exact ⟨h.1, h.2.1, fun b => ⟨_, h.2.2 b, lookEq_put hrel hdd, after_put fun _ _ hc => mem_cons' hc⟩⟩
    · exact ⟨h.1, h.2.1, fun b => ⟨_, h.2.2 b, lookEq_put hrel hdd, after_put fun _ _ hc => hc⟩⟩
  case alloc loc T z =>
    cases loc <;> simp only [effV] at h ⊢
    · exact fun b => ⟨_, h b, lookEq_put hrel hdd, after_put fun _ _ hc => mem_cons' hc⟩
    · exact fun b => ⟨_, h b, lookEq_put hrel hdd, after_put fun _ _ hc => hc⟩
  case buildS t n z parts =>
    simp only [effV] at h ⊢
    rw [partOn_same hsm, partVals_same hsm]
    exact ⟨h.1, h.2.1, fun b => ⟨_, h.2.2 b, lookEq_put hrel hdd, after_put fun _ _ hc => mem_cons' hc⟩⟩
  case mk e sz bytes z n c =>
    simp only [effV] at h ⊢
    rw [val_same hsm.left, val_same hsm.right]
    split
    · rename_i e1 e2
      rw [e1, e2] at h
      exact ⟨h.1, h.2.1, h.2.2.1, fun b => ⟨_, h.2.2.2 b, lookEq_put hrel hdd, after_put fun _ _ hc => mem_cons' hc⟩⟩
    · rename_i e1
      split at h
      · rename_i q1 q2
        exact (e1 _ _ q1 q2).elim
      · exact h
  case appz t u e sz bytes z s' x =>
    simp only [effV] at h ⊢
    rw [val_same hsm.left, val_same hsm.right]
    refine ⟨h.1, h.2.1, ?_⟩
    have h2 := h.2.2
    split
    · rename_i e1 e2
      rw [e1, e2] at h2
      obtain ⟨a1, a2, a3, i, g, a4, a5⟩ := h2
      exact ⟨a1, a2, a3, i, g, a4, fun v' h' r1 r2 => ⟨_, a5 v' h' r1 r2, lookEq_put hrel hdd, after_put fun q => by cases q⟩⟩
    · rename_i e1
      split at h2
      · rename_i q1 q2
        exact (e1 _ _ q1 q2).elim
      · exact h2
  case append t e sz bytes z s' x =>
    simp only [effV] at h ⊢
    rw [val_same hsm.left, val_same hsm.right]
    refine ⟨h.1, h.2.1, ?_⟩
    split
    · rename_i e1
      have h2 := h.2.2
      rw [e1] at h2
      obtain ⟨i, g, n, xs, news, a1, a2, a3, a4, a5, a6, a7, a8⟩ := h2
      exact ⟨i, g, n, xs, news, a1, a2, a3, a4, a5, a6, a7, fun v' h' r1 r2 r3 => ⟨_, a8 v' h' r1 r2 r3, lookEq_put hrel hdd, after_put fun q => by cases q⟩⟩
    · rename_i e1
      have h2 := h.2.2
      split at h2
      · exact absurd ‹_› (e1 _ _ _)
      · exact h2
  case call f args =>
    simp only [effV] at h ⊢
    rw [val_same hsm.left, vals_same hsm.right, allOn_same hsm.right]
    refine ⟨h.1, ?_⟩
    split
    · rename_i e1
      have h2 := h.2
      rw [e1] at h2
      obtain ⟨Γr1, Γm, Γf, R, a1, a2, a3, a4⟩ := h2
      exact ⟨Γr1, Γm, Γf, R, a1, a2, a3, fun v Γ' hR => ⟨_, a4 v Γ' hR, lookEq_put hrel hdd, after_put fun q => by cases q⟩⟩
    · rename_i e1
      have h2 := h.2
      split at h2
      · exact absurd ‹_› (e1 _ _ _)
      · exact h2
  case store n x y =>
    simp only [effV] at h ⊢
    rw [val_same hsm.left, val_same hsm.right, slotOf_same hsm.left]
    obtain ⟨h1, h2, h3, h4, h5⟩ := h
    refine ⟨h1, h2, h3, h4, ?_⟩
    split at h5
    · rename_i e s0 b o e1
      try simp only [e1]
      split at h5
      · rename_i b' T cs e2
        have hne : ¬ dx = some s0 := by
          intro q
          rw [hrel s0, look_put, if_pos q] at e2
          rw [e2] at hs
          cases hs
        have e3 : look ψ s0 = .box b' T cs := by rw [← e2, hrel s0, look_put, if_neg hne]
        simp only [e3]
        refine ⟨h5.1, h5.2.1, _, h5.2.2, fun t => ?_, fun t _ => ?_, fun q => absurd rfl q, fun q => by cases q⟩
        · rw [look_upd, look_put, look_upd, hrel t, look_put]
          by_cases q : dx = some t
          · have : ¬ s0 = t := fun r => hne (by rw [r]; exact q)
            simp [q, this]
          · simp [q]
        · rw [look_upd]
          split
          · cases look ψ t <;> rfl
          · rfl
      · exact h5.elim
    · rename_i e1
      try simp only [e1]
      obtain ⟨i, g, cells, T, a1, a2, a3, a4⟩ := h5
      exact ⟨i, g, cells, T, a1, a2, a3, _, a4, hrel, fun t _ => rfl, fun _ t _ => rfl, fun q => by cases q⟩
    · exact h5.elim
  case a c xs =>
    simp only [effV] at h ⊢
    rw [vals_same hsm, allOn_same hsm]
    refine ⟨h.1, fun w hw => ?_⟩
    obtain ⟨v, w', m, h1, h2⟩ := h.2 w hw
    refine ⟨v, w', m, h1, ?_⟩
    rcases h2 with ⟨h2, h3⟩ | ⟨i, g, b, p, q, h2, h3, h4, h5⟩
    · exact .inl ⟨h2, _, h3, lookEq_put hrel hdd, after_put fun q => by cases q⟩
    · exact .inr ⟨i, g, b, p, q, h2, h3, h4, _, h5, lookEq_put hrel hdd, after_put fun q => by cases q⟩
  case n c xs =>
    simp only [effV] at h ⊢
    rw [vals_same hsm, allOn_same hsm]
    refine ⟨h.1, fun w hw => ?_⟩
    obtain ⟨v, q, h1, h2⟩ := h.2 w hw
    exact ⟨v, q, h1, _, h2, lookEq_put hrel hdd, after_put fun _ _ hc => mem_cons' hc⟩
  all_goals (simp only [effV] at h)

theorem effV_false {P : Program} {Γr Γ : Ctx} {φ : Fr} {d : Option Nat} {op : SOp} {k : Fr → Ctx → Prop} (h : effV P Γr φ Γ d op k) : isPure op = false ∧ isAsk op = false := by
  cases op <;> simp only [effV] at h <;> first | exact ⟨rfl, rfl⟩ | exact h.elim
theorem modi_quiet {op : SOp} (h : (isPure op || isAsk op) = true) : modi op = 0 := by
  cases op <;> first | rfl | simp [isPure, isAsk] at h

/-- an operation that only reads: what it answers, wherever what it looks at is the same -/
theorem vc1_quiet {P : Program} {Γr Γ : Ctx} {φ : Fr} {early : Bool} {x : SOper} {k : Fr → Ctx → Prop} (hq : (isPure x.op || isAsk x.op) = true) (h : vc1 P Γr early x φ Γ k) :
    ∃ s, isBox s = false ∧ k (put φ x.dst s) Γ ∧ ∀ ψ Γ', SameOn (rdS x) φ ψ → (isLoad x.op = true → ∀ t, isBox (look φ t) = true → look ψ t = look φ t) →
      (isLoad x.op = true → ∀ g ∈ ctxOf early Γ Γr, g ∈ ctxOf early Γ' Γr) → ∀ k' : Fr → Ctx → Prop, k' (put ψ x.dst s) Γ' → vc1 P Γr early x ψ Γ' k' := by
  unfold vc1 at h ⊢
  split at h
  · rename_i e he
    cases hp : isPure x.op with
    | true =>
      simp only [hp, cond_true] at h ⊢
      obtain ⟨s, h1, h2, h3⟩ := pure_split h
      refine ⟨s, h1, h2, fun ψ Γ' hs _ _ k' hk => ?_⟩
      rw [gd_same hs.left, he]
      simp only
      rw [pure_same hs.right]
      exact h3 _ hk
    | false =>
      have ha : isAsk x.op = true := by simpa [hp] using hq
      simp only [hp, ha, cond_true, cond_false] at h ⊢
      obtain ⟨s, h1, h2, h3⟩ := ask_split h
      refine ⟨s, h1, h2, fun ψ Γ' hs hb hc k' hk => ?_⟩
      rw [gd_same hs.left, he]
      exact h3 ψ _ hs.right hb hc _ hk
  · exact h.elim

/-- an operation in a frame that lacks one slot -/
theorem vc1_move {P : Program} {Γr Γ : Ctx} {φ ψ : Fr} {dx : Option Nat} {s : Sl} {early : Bool} {y : SOper} {k : Fr → Ctx → Prop} (hrel : LookEq φ (put ψ dx s)) (hs : isBox s = false)
    (hrd : ∀ d, dx = some d → d ∉ rdS y) (hdd : ∀ d, dx = some d → y.dst ≠ some d) (h : vc1 P Γr early y φ Γ k) :
    vc1 P Γr early y ψ Γ (fun ψ' Γ' => ∃ φ', k φ' Γ' ∧ LookEq φ' (put ψ' dx s) ∧ After Γr y.dst (modi y.op) ψ ψ' Γ Γ') := by
  have hsm : SameOn (rdS y) φ ψ := sameOn_put hrel hrd
  cases hq : (isPure y.op || isAsk y.op) with
  | true =>
    obtain ⟨v, h1, h2, h3⟩ := vc1_quiet hq h
    refine h3 ψ Γ hsm (fun _ t ht => ?_) (fun _ _ hc => hc) _ ⟨_, h2, lookEq_put hrel hdd, after_put fun _ _ hc => hc⟩
    rw [hrel t, look_put]
    by_cases q : dx = some t
    · rw [hrel t, look_put, if_pos q, hs] at ht; cases ht
    · rw [if_neg q]
  | false =>
    have hp : isPure y.op = false := by cases h' : isPure y.op <;> simp_all
    have ha : isAsk y.op = false := by cases h' : isAsk y.op <;> simp_all
    unfold vc1 at h ⊢
    rw [gd_same hsm.left]
    split at h
    · rename_i e he
      simp only [hp, ha, cond_false] at h ⊢
      refine ⟨fun q => eff_move hrel hs (fun d hd hm => hrd d hd (by simp [rdS, hm])) hdd (h.1 q), fun q => let ⟨x, hx⟩ := h.2 q; ⟨x, _, hx, lookEq_put hrel hdd, ?_⟩⟩
      exact after_put fun _ _ hc => hc
    · exact h.elim

theorem eff_mono {P : Program} {Γr Γ : Ctx} {φ : Fr} {d : Option Nat} {op : SOp} {k k' : Fr → Ctx → Prop} (hk : ∀ φ Γ, k φ Γ → k' φ Γ) (h : effV P Γr φ Γ d op k) : effV P Γr φ Γ d op k' := by
  cases op <;> simp only [effV] at h ⊢
  case box loc T x => cases loc <;> simp only [effV] at h ⊢ <;> exact ⟨h.1, h.2.1, fun b => hk _ _ (h.2.2 b)⟩
  case alloc loc T z => cases loc <;> simp only [effV] at h ⊢ <;> exact fun b => hk _ _ (h b)
  case buildS t n z parts => exact ⟨h.1, h.2.1, fun b => hk _ _ (h.2.2 b)⟩
  case mk e sz bytes z n c =>
    split at h
    · exact ⟨h.1, h.2.1, h.2.2.1, fun b => hk _ _ (h.2.2.2 b)⟩
    · exact h.elim
  case appz t u e sz bytes z s' x =>
    refine ⟨h.1, h.2.1, ?_⟩
    have h2 := h.2.2
    split at h2
    · obtain ⟨a1, a2, a3, i, g, a4, a5⟩ := h2
      exact ⟨a1, a2, a3, i, g, a4, fun v' h' r1 r2 => hk _ _ (a5 v' h' r1 r2)⟩
    · exact h2.elim
  case append t e sz bytes z s' x =>
    refine ⟨h.1, h.2.1, ?_⟩
    have h2 := h.2.2
    split at h2
    · obtain ⟨i, g, n, xs, news, a1, a2, a3, a4, a5, a6, a7, a8⟩ := h2
      exact ⟨i, g, n, xs, news, a1, a2, a3, a4, a5, a6, a7, fun v' h' r1 r2 r3 => hk _ _ (a8 v' h' r1 r2 r3)⟩
    · exact h2.elim
  case call f args =>
    refine ⟨h.1, ?_⟩
    have h2 := h.2
    split at h2
    · obtain ⟨Γr1, Γm, Γf, R, a1, a2, a3, a4⟩ := h2
      exact ⟨Γr1, Γm, Γf, R, a1, a2, a3, fun v Γ' hR => hk _ _ (a4 v Γ' hR)⟩
    · exact h2.elim
  case store n x y =>
    obtain ⟨h1, h2, h3, h4, h5⟩ := h
    refine ⟨h1, h2, h3, h4, ?_⟩
    split at h5
    · split at h5
      · exact ⟨h5.1, h5.2.1, hk _ _ h5.2.2⟩
      · exact h5.elim
    · obtain ⟨i, g, cells, T, a1, a2, a3, a4⟩ := h5
      exact ⟨i, g, cells, T, a1, a2, a3, hk _ _ a4⟩
    · exact h5.elim
  case a c xs =>
    refine ⟨h.1, fun w hw => ?_⟩
    obtain ⟨v, w', m, h1, h2⟩ := h.2 w hw
    refine ⟨v, w', m, h1, ?_⟩
    rcases h2 with ⟨h2, h3⟩ | ⟨i, g, b, p, q, h2, h3, h4, h5⟩
    · exact .inl ⟨h2, hk _ _ h3⟩
    · exact .inr ⟨i, g, b, p, q, h2, h3, h4, hk _ _ h5⟩
  case n c xs =>
    refine ⟨h.1, fun w hw => ?_⟩
    obtain ⟨v, q, h1, h2⟩ := h.2 w hw
    exact ⟨v, q, h1, hk _ _ h2⟩
theorem vc1_mono {P : Program} {Γr Γ : Ctx} {φ : Fr} {early : Bool} {o : SOper} {k k' : Fr → Ctx → Prop} (hk : ∀ φ Γ, k φ Γ → k' φ Γ) (h : vc1 P Γr early o φ Γ k) : vc1 P Γr early o φ Γ k' := by
  unfold vc1 at h ⊢
  split at h
  · rename_i e he
    cases hp : isPure o.op with
    | true =>
      simp only [hp, cond_true] at h ⊢
      obtain ⟨s, _, h2, h3⟩ := pure_split h
      exact h3 _ (hk _ _ h2)
    | false =>
      cases ha : isAsk o.op with
      | true =>
        simp only [hp, ha, cond_true, cond_false] at h ⊢
        obtain ⟨s, _, h2, h3⟩ := ask_split h
        exact h3 φ _ (fun _ _ => rfl) (fun _ _ _ => rfl) (fun _ _ hc => hc) _ (hk _ _ h2)
      | false =>
        simp only [hp, ha, cond_false] at h ⊢
        exact ⟨fun q => eff_mono hk (h.1 q), fun q => let ⟨x, hx⟩ := h.2 q; ⟨x, hk _ _ hx⟩⟩
  · exact h.elim

theorem LookEq.sym {φ ψ : Fr} (h : LookEq φ ψ) : LookEq ψ φ := fun t => (h t).symm
theorem vc1_ext {P : Program} {Γr Γ : Ctx} {φ ψ : Fr} {early : Bool} {o : SOper} {k : Fr → Ctx → Prop} (hk : Ext k) (hl : LookEq φ ψ) (h : vc1 P Γr early o φ Γ k) : vc1 P Γr early o ψ Γ k :=
  vc1_mono (fun φ' Γ' ⟨φ'', h1, h2, _⟩ => hk _ _ _ h2 h1) (vc1_move (dx := none) (s := .dead) (by simpa [put] using hl) rfl (fun _ q => by cases q) (fun _ q => by cases q) h)
theorem vcD_ext {P : Program} {Γr : Ctx} {K : Fr → Ctx → Prop} (hK : Ext K) : ∀ (l : List (Bool × SOper)), Ext (fun φ Γ => vcD P Γr l φ Γ K)
  | [] => hK
  | x :: r => fun φ ψ Γ hl h => vc1_ext (vcD_ext hK r) hl h

/-- two operations turned round -/
theorem vc1_swap {P : Program} {Γr Γ : Ctx} {φ : Fr} {x y : Bool × SOper} {k : Fr → Ctx → Prop} (hk : Ext k) (hm : mayPass x y = true) (hd : dstEq x.2 y.2 = false)
    (hnb : ∀ d, y.2.dst = some d → isBox (look φ d) = false)
    (h : vc1 P Γr x.1 x.2 φ Γ (fun φ1 Γ1 => vc1 P Γr y.1 y.2 φ1 Γ1 k)) : vc1 P Γr y.1 y.2 φ Γ (fun φ1 Γ1 => vc1 P Γr x.1 x.2 φ1 Γ1 k) := by
  unfold mayPass at hm
  simp only [Bool.and_eq_true, Bool.not_eq_true'] at hm
  obtain ⟨⟨⟨hq, h1⟩, h2⟩, h3⟩ := hm
  obtain ⟨s, hs, hy, hans⟩ := vc1_quiet hq h
  have hdx : ∀ d, x.2.dst = some d → d ∉ rdS y.2 := fun d q hmem => by simp [dstIn, q, hmem] at h1
  have hdy : ∀ d, y.2.dst = some d → d ∉ rdS x.2 := fun d q hmem => by simp [dstIn, q, hmem] at h2
  have hdd : ∀ d, x.2.dst = some d → y.2.dst ≠ some d := fun d q r => by simp [dstEq, q, r] at hd
  refine vc1_mono ?_ (vc1_move (φ := put φ x.2.dst s) (fun _ => rfl) hs hdx hdd hy)
  rintro ψ' Γ' ⟨φ', hk', hl, ha1, ha2, ha3⟩
  refine hans ψ' Γ' (fun t ht => ha1 t (fun q => hdy t q ht)) (fun hload t ht => ?_) (fun hload b hc => ?_) _ (hk _ _ _ hl hk')
  · refine ha2 ?_ t (fun q => by rw [hnb t q] at ht; cases ht)
    intro q
    simp [hload, q] at h3
  · cases hx : x.1 with
    | true => rw [hx] at hc; exact hc
    | false =>
      rw [hx] at hc
      refine ha3 ?_ b hc
      simp [hload, hx] at h3
      exact h3

theorem boxSt_spec {op : SOp} {d : Nat} (h : boxSt op = some d) : ∃ n v, op = .store n (.tmp d) v := by
  unfold boxSt at h
  split at h
  · simp only [Option.some.injEq] at h
    subst h
    exact ⟨_, _, rfl⟩
  · cases h
/-- a load of a known local box, or of none -/
theorem vc1_quietB {P : Program} {Γr Γ : Ctx} {φ : Fr} {early : Bool} {x : SOper} {q : Option Nat} {agg : Bool} {n : Nat} {xx : Operand} {k : Fr → Ctx → Prop} (ho : x.op = .loadB q agg n xx) (h : vc1 P Γr early x φ Γ k) :
    (∀ t, q = some t → isBox (look φ t) = true) ∧ ∃ s, isBox s = false ∧ k (put φ x.dst s) Γ ∧ ∀ ψ, SameOn (rdS x) φ ψ → (∀ t, q = some t → look ψ t = look φ t) → ∀ k' : Fr → Ctx → Prop, k' (put ψ x.dst s) Γ → vc1 P Γr early x ψ Γ k' := by
  obtain ⟨d, g, op⟩ := x
  simp only at ho
  subst ho
  unfold vc1 at h ⊢
  simp only [isPure, isAsk, cond_true, cond_false] at h ⊢
  split at h
  · rename_i e he
    simp only [askV] at h
    obtain ⟨h0, h⟩ := h
    split at h
    · rename_i e1
      rw [e1] at h0
      split at h
      · rename_i e2
        obtain ⟨h1, h2, h3, h4, h5⟩ := h
        refine ⟨fun t ht => (by rw [show q = _ from h0] at ht; simp only [Option.some.injEq] at ht; subst ht; rw [e2]; rfl), _, rfl, h5, fun ψ hs hb k' hk => ?_⟩
        rw [gd_same hs.left, he]
        simp only [askV]
        rw [slotOf_same hs.right, e1, val_same hs.right]
        refine ⟨h0, ?_⟩
        simp only [hb _ h0, e2]
        exact ⟨h1, h2, h3, h4, hk⟩
      · exact h.elim
    · rename_i e1
      rw [e1] at h0
      obtain ⟨h1, vs, h2, h3, h4⟩ := h
      refine ⟨fun t ht => (by rw [show q = none from h0] at ht; exact absurd ht (by simp)), _, rfl, h4, fun ψ hs _ k' hk => ?_⟩
      rw [gd_same hs.left, he]
      simp only [askV]
      rw [slotOf_same hs.right, e1, val_same hs.right]
      exact ⟨h0, h1, vs, h2, h3, hk⟩
    · exact h.elim
  · exact h.elim
/-- a store into a local box changes that alone -/
theorem vc1_boxSt {P : Program} {Γr Γ : Ctx} {φ : Fr} {early : Bool} {y : SOper} {d : Nat} {k : Fr → Ctx → Prop} (ho : boxSt y.op = some d) (hd : isBox (look φ d) = true) (h : vc1 P Γr early y φ Γ k) :
    vc1 P Γr early y φ Γ (fun ψ Γ' => k ψ Γ' ∧ Γ' = Γ ∧ ∀ t, t ≠ d → y.dst ≠ some t → look ψ t = look φ t) := by
  obtain ⟨dy, g, op⟩ := y
  simp only at ho ⊢
  obtain ⟨n, v, rfl⟩ := boxSt_spec ho
  unfold vc1 at h ⊢
  simp only [isPure, isAsk, cond_true, cond_false] at h ⊢
  split at h
  · rename_i e he
    refine ⟨fun q => ?_, fun q => ?_⟩
    · obtain ⟨h1, h2, h3, h4, h5⟩ := h.1 q
      refine ⟨h1, h2, h3, h4, ?_⟩
      cases hb : look φ d with
      | box b T cs =>
        have hs : slotOf φ true (.tmp d) = .ref true d b 0 := by simp [slotOf, hb]
        rw [hs] at h5 ⊢
        simp only [hb] at h5 ⊢
        refine ⟨h5.1, h5.2.1, h5.2.2, trivial, fun t ht _ => ?_⟩
        rw [look_upd, if_neg (fun q => ht q.symm)]
      | _ => rw [hb] at hd; cases hd
    · obtain ⟨x, hx⟩ := h.2 q
      exact ⟨x, hx, trivial, fun t _ ht => by rw [look_put, if_neg ht]⟩
  · exact h.elim
theorem vc1_swapB {P : Program} {Γr Γ : Ctx} {φ : Fr} {x y : Bool × SOper} {k : Fr → Ctx → Prop} (hk : Ext k) (hm : passB x.2 y.2 = true) (hd : dstEq x.2 y.2 = false)
    (hnb : ∀ d, y.2.dst = some d → isBox (look φ d) = false) (hbx : ∀ d, boxSt y.2.op = some d → isBox (look φ d) = true)
    (h : vc1 P Γr x.1 x.2 φ Γ (fun φ1 Γ1 => vc1 P Γr y.1 y.2 φ1 Γ1 k)) : vc1 P Γr y.1 y.2 φ Γ (fun φ1 Γ1 => vc1 P Γr x.1 x.2 φ1 Γ1 k) := by
  unfold passB at hm
  simp only [Bool.and_eq_true, Bool.not_eq_true'] at hm
  obtain ⟨⟨h1, h2⟩, h3⟩ := hm
  split at h3
  · rename_i q agg n xx d ho hb
    obtain ⟨hqb, s, hs, hy, hans⟩ := vc1_quietB ho h
    have hdx : ∀ d, x.2.dst = some d → d ∉ rdS y.2 := fun d q hmem => by simp [dstIn, q, hmem] at h1
    have hdy : ∀ d, y.2.dst = some d → d ∉ rdS x.2 := fun d q hmem => by simp [dstIn, q, hmem] at h2
    have hdd : ∀ d, x.2.dst = some d → y.2.dst ≠ some d := fun d q r => by simp [dstEq, q, r] at hd
    refine vc1_mono ?_ (vc1_boxSt hb (hbx d hb) (vc1_move (φ := put φ x.2.dst s) (fun _ => rfl) hs hdx hdd hy))
    rintro ψ' Γ' ⟨⟨φ', hk', hl, ha1, ha2, ha3⟩, rfl, hlk⟩
    refine hans ψ' (fun t ht => ha1 t (fun q => hdy t q ht)) (fun t ht => ?_) _ (hk _ _ _ hl hk')
    by_cases hyt : y.2.dst = some t
    · have h5 := hqb t ht
      rw [hnb t hyt] at h5
      cases h5
    · refine hlk t (fun e => ?_) hyt
      subst e
      rw [ht] at h3
      simp at h3
  · cases h3
theorem bubble {P : Program} {Γr : Ctx} {K : Fr → Ctx → Prop} (hK : Ext K) {y : Bool × SOper} {l2 : List (Bool × SOper)} : ∀ (l1 : List (Bool × SOper)) (φ : Fr) (Γ : Ctx),
    (∀ x ∈ l1, (mayPass x y = true ∨ passB x.2 y.2 = true) ∧ dstEq x.2 y.2 = false) → (∀ d, y.2.dst = some d → isBox (look φ d) = false) → (∀ d, boxSt y.2.op = some d → (∃ x ∈ l1, passB x.2 y.2 = true) → isBox (look φ d) = true) →
    vcD P Γr (l1 ++ y :: l2) φ Γ K → vc1 P Γr y.1 y.2 φ Γ (fun φ' Γ' => vcD P Γr (l1 ++ l2) φ' Γ' K)
  | [], φ, Γ, _, _, _, h => h
  | x :: l1, φ, Γ, hx, hnb, hbx, h => by
    simp only [List.cons_append, vcD] at h
    obtain ⟨hm, hd⟩ := hx x (by simp)
    have hqx : (isPure x.2.op || isAsk x.2.op) = true := by
      rcases hm with hm | hm
      · unfold mayPass at hm
        simp only [Bool.and_eq_true, Bool.not_eq_true'] at hm
        exact hm.1.1.1
      · unfold passB at hm
        simp only [Bool.and_eq_true] at hm
        have hm3 := hm.2
        split at hm3
        · rename_i ho _
          rw [ho]
          rfl
        · cases hm3
    have hrx : ∀ d, x.2.dst = some d → d ∉ rdS y.2 := fun d q hmem => by
      rcases hm with hm | hm
      · unfold mayPass at hm
        simp [dstIn, q, hmem] at hm
      · unfold passB at hm
        simp [dstIn, q, hmem] at hm
    have hdd : ∀ d, x.2.dst = some d → y.2.dst ≠ some d := fun d q r => by simp [dstEq, q, r] at hd
    obtain ⟨s, hs, hk, hans⟩ := vc1_quiet hqx h
    have ih := bubble hK l1 (put φ x.2.dst s) Γ (fun z hz => hx z (by simp [hz])) (fun d q => by
      rw [look_put, if_neg (fun r => hdd d r q)]
      exact hnb d q) (fun d q ⟨z, hz, hp⟩ => by
      rw [look_put, if_neg (fun r => hrx d r (by
        obtain ⟨n, v, ho⟩ := boxSt_spec q
        simp [rdS, ho, rd, rdO]))]
      exact hbx d q ⟨z, by simp [hz], hp⟩) hk
    simp only [List.cons_append, vcD]
    have hsw := hans φ Γ (fun _ _ => rfl) (fun _ _ _ => rfl) (fun _ _ hc => hc) (fun φ1 Γ1 => vc1 P Γr y.1 y.2 φ1 Γ1 (fun φ' Γ' => vcD P Γr (l1 ++ l2) φ' Γ' K)) ih
    rcases hm with hm | hm
    · exact vc1_swap (vcD_ext hK _) hm hd hnb hsw
    · exact vc1_swapB (vcD_ext hK _) hm hd hnb (fun d q => hbx d q ⟨x, by simp, hm⟩) hsw

theorem vcOps_of_vc1 {P : Program} {Γr Γ : Ctx} {φ : Fr} {early : Bool} {y : SOper} {k : Fr → Ctx → Prop} (h : vc1 P Γr early y φ Γ k) : vcOps P Γr [y] φ Γ k := by
  obtain ⟨d, g, op⟩ := y
  have key : ∀ e, isPure op = false → isAsk op = true → askV P (ctxOf early Γ Γr) φ e op (fun x => k (put φ d x) Γ) → askV P (Γ ++ Γr) φ e op (fun x => k (put φ d x) Γ) := by
    intro e _ _ q
    cases early with
    | false => exact q
    | true =>
      obtain ⟨s, _, h2, h3⟩ := ask_split q
      exact h3 φ _ (fun _ _ => rfl) (fun _ _ _ => rfl) (fun _ g hg => by simp [show g ∈ Γr from hg]) _ h2
  unfold vc1 at h
  cases g with
  | none =>
    simp only [gd] at h
    simp only [vcOps]
    cases hp : isPure op with
    | true => simpa only [hp, cond_true] using h
    | false =>
      cases ha : isAsk op with
      | true => simp only [hp, ha, cond_true, cond_false] at h ⊢; exact key _ hp ha h
      | false => simp only [hp, ha, cond_false] at h ⊢; exact h.1 (by simp)
  | some g =>
    simp only [vcOps]
    split at h
    · rename_i e he
      simp only at he
      rw [he]
      simp only
      cases hp : isPure op with
      | true => simpa only [hp, cond_true] using h
      | false =>
        cases ha : isAsk op with
        | true => simp only [hp, ha, cond_true, cond_false] at h ⊢; exact key _ hp ha h
        | false => simp only [hp, ha, cond_false] at h ⊢; exact h
    · exact h.elim

def QK (K : Act → World → Prop) : Exit → Act → World → Prop
  | .normal, a, w => K a w
  | _, _, _ => False
theorem letsOut_QK {K : Act → World → Prop} : ¬ LetsOut (QK K) := fun ⟨_, _, h⟩ => h
theorem wp_QK {P : Program} {o : Oper} {a : Act} {w : World} {N K : Act → World → Prop} {Q : Exit → Act → World → Prop} (h : o.wp P a w N (QK K)) : o.wp P a w N Q := by
  unfold Oper.wp at *
  generalize (execOp a.eval o).run P w = r at *
  cases r with
  | ok n w' =>
    cases n <;> simp only [Oper.upon] at h ⊢ <;>
      first
        | exact h
        | exact Calls.mono h (fun e w'' he => by cases e <;> first | exact he | exact he.elim | exact absurd he letsOut_QK)
        | exact Rows.mono h (fun _ _ he => he)
  | halt x w' => cases x <;> simp only [Oper.upon] at h ⊢ <;> exact h.elim

theorem trOpers_at {P : Program} {n : Nat} {locs : List Nat} {ops : Array Oper} : ∀ {l : List Oper} {sl : List SOper}, trOpers P n locs ops l = some sl →
    sl.length = l.length ∧ ∀ (i : Nat) o, l[i]? = some o → ∃ y, sl[i]? = some y ∧ trOper P n locs ops o = some y
  | [], sl, h => by
    simp only [trOpers, Option.some.injEq] at h
    subst h
    exact ⟨rfl, fun i o q => by simp at q⟩
  | o :: r, sl, h => by
    simp only [trOpers] at h
    split at h
    · rename_i so l' hso hl'
      simp only [Option.some.injEq] at h
      subst h
      obtain ⟨h1, h2⟩ := trOpers_at hl'
      refine ⟨by simp [h1], fun i o' q => ?_⟩
      cases i with
      | zero => simp at q; subst q; exact ⟨so, rfl, hso⟩
      | succ i => simpa using h2 i o' (by simpa using q)
    · cases h

section
variable {n : Nat} {Γr Γm : Ctx} {w0 : World} {φ : Fr} {Γ : Ctx} {a : Act} {w : World} {P : Program}

theorem one_sound {locs : List Nat} {ops : Array Oper} {i : Nat} {o : Oper} {y : SOper} {early : Bool} {k : Fr → Ctx → Prop} {K : Act → World → Prop} {Q : Exit → Act → World → Prop}
    (ho : ops[i]? = some o) (hy : trOper P n locs ops o = some y) (hv : vc1 P Γr early y φ Γ k) (hst : St n Γr Γm w0 φ Γ a w)
    (hK : ∀ φ Γ a w, k φ Γ → St n Γr Γm w0 φ Γ a w → K a w) : wpOp P ops Q i K a w := by
  have h := vcOps_sound (P := P) (locs := locs) (ops := ops) (Q := QK K) (K := k) (fun φ Γ a w hk hs => hK φ Γ a w hk hs) [o] [y] (by simp [trOpers, hy]) φ Γ a w (vcOps_of_vc1 hv) hst
  unfold wpOp
  rw [ho]
  simp only [wpList] at h ⊢
  split
  · rename_i hw
    rw [if_pos hw] at h
    rcases h with h | ⟨_, h⟩
    · exact .inl (wp_QK h)
    · exact absurd h letsOut_QK
  · rename_i hw
    rw [if_neg hw] at h
    exact h

/-! the order -/
def PairOk (B : Bool) (sl : List SOper) (E : List Nat) (T : List (List Nat)) (i j : Nat) : Prop :=
  ∃ x y tj, sl[i]? = some x ∧ sl[j]? = some y ∧ T[j]? = some tj ∧ dstEq x y = false ∧ (i ∈ tj ∨ mayPass (E.contains i, x) (E.contains j, y) = true ∨ (B = true ∧ passB x y = true))

theorem orderOk_spec {B : Bool} {ops : List Oper} {sl : List SOper} {E : List Nat} {T : List (List Nat)} : ∀ (C seen : List Nat), orderOk B ops sl E T seen C = true →
    C.Nodup ∧ (∀ j ∈ C, j ∉ seen) ∧ (∀ j ∈ C, j < ops.length) ∧ C.Pairwise (PairOk B sl E T) ∧ (∀ i ∈ seen, ∀ j ∈ C, PairOk B sl E T i j) ∧
    (∀ C1 j C2, C = C1 ++ j :: C2 → ∀ o, ops[j]? = some o → ∀ p ∈ direct o, p ∈ seen ∨ p ∈ C1)
  | [], seen, _ => ⟨List.nodup_nil, by simp, by simp, List.Pairwise.nil, by simp, by simp⟩
  | j :: r, seen, h => by
    simp only [orderOk, Bool.and_eq_true, Bool.not_eq_true'] at h
    obtain ⟨⟨h1, h2⟩, h3⟩ := h
    split at h2
    · rename_i o y tj ho hy htj
      simp only [Bool.and_eq_true, List.all_eq_true] at h2
      obtain ⟨h4, h5⟩ := h2
      obtain ⟨a1, a2, a3, a4, a5, a6⟩ := orderOk_spec r (j :: seen) h3
      have hj : j ∉ seen := by simpa using h1
      have hsj : ∀ i ∈ seen, PairOk B sl E T i j := fun i hi => by
        have := h5 i hi
        split at this
        · rename_i x hx
          simp only [Bool.and_eq_true, Bool.not_eq_true', Bool.or_eq_true] at this
          exact ⟨x, y, tj, hx, hy, htj, this.1, by simpa [Bool.and_eq_true] using this.2⟩
        · cases this
      refine ⟨List.nodup_cons.2 ⟨fun q => a2 j q (by simp), a1⟩, ?_, ?_, ?_, ?_, ?_⟩
      · intro k hk
        rcases List.mem_cons.1 hk with rfl | hk
        · exact hj
        · exact fun q => a2 k hk (by simp [q])
      · intro k hk
        rcases List.mem_cons.1 hk with rfl | hk
        · exact (List.getElem?_eq_some_iff.1 ho).1
        · exact a3 k hk
      · exact List.pairwise_cons.2 ⟨fun k hk => a5 j (by simp) k hk, a4⟩
      · intro i hi k hk
        rcases List.mem_cons.1 hk with rfl | hk
        · exact hsj i hi
        · exact a5 i (by simp [hi]) k hk
      · intro C1 k C2 hC o' ho' p hp
        cases C1 with
        | nil =>
          simp only [List.nil_append, List.cons.injEq] at hC
          obtain ⟨rfl, rfl⟩ := hC
          rw [ho] at ho'
          cases ho'
          left
          simpa using h4 p hp
        | cons c C1 =>
          simp only [List.cons_append, List.cons.injEq] at hC
          obtain ⟨rfl, hC⟩ := hC
          rcases a6 C1 k C2 hC o' ho' p hp with q | q
          · rcases List.mem_cons.1 q with rfl | q
            · right; simp
            · exact .inl q
          · right; simp [q]
    · cases h2

theorem ancOk_spec {ops : List Oper} {T : List (List Nat)} : ∀ (S : List (List Nat)) (j : Nat), ancOk ops T j S = true →
    ∀ k ys, S[k]? = some ys → ∃ o, ops[j + k]? = some o ∧ ∀ y ∈ ys, y ∈ direct o ∨ ∃ p ∈ direct o, ∃ zs, T[p]? = some zs ∧ y ∈ zs
  | [], j, _, k, ys, h => by simp at h
  | s :: S, j, h, k, ys, hk => by
    simp only [ancOk, Bool.and_eq_true] at h
    obtain ⟨h1, h2⟩ := h
    cases k with
    | zero =>
      simp at hk
      subst hk
      split at h1
      · rename_i o ho
        refine ⟨o, by simpa using ho, fun y hy => ?_⟩
        have := List.all_eq_true.1 h1 y hy
        simp only [Bool.or_eq_true, List.any_eq_true] at this
        rcases this with q | ⟨p, hp, q⟩
        · left; simpa using q
        · right
          split at q
          · rename_i zs hz
            exact ⟨p, hp, zs, hz, by simpa using q⟩
          · cases q
      · cases h1
    | succ k =>
      have := ancOk_spec S (j + 1) h2 k ys (by simpa using hk)
      rw [show j + (k + 1) = j + 1 + k by omega]
      exact this

theorem noBoxes_mem {φ : Fr} (l : List (Bool × SOper)) (h : noBoxes φ l) (x : Bool × SOper) (hx : x ∈ l) (d : Nat) (hd : x.2.dst = some d) : isBox (look φ d) = false := by
  induction l with
  | nil => cases hx
  | cons y r ih =>
    rcases List.mem_cons.1 hx with q | q
    · subst q
      have h1 := h.1
      rw [hd] at h1
      exact h1
    · exact ih h.2 q
theorem bare_isBox {x y : Sl} (h : bare x = bare y) : isBox x = isBox y := by
  cases x <;> cases y <;> simp_all [bare, isBox]

variable {locs : List Nat} {ops : Array Oper} {sl : List SOper} {E : List Nat} {T : List (List Nat)} {pk : Nat → Bool × SOper} {K : Fr → Ctx → Prop} {Q : Exit → Act → World → Prop}
theorem ready_iff {listed : Array Bool} {i : Nat} (h : i ∈ Region.ready .any ops listed) : ∃ o, ops[i]? = some o ∧ listed.getD i true = false ∧ ∀ p ∈ direct o, listed.getD p false = true := by
  unfold Region.ready at h
  obtain ⟨h1, h2⟩ := List.mem_filter.1 h
  simp only [Bool.and_eq_true, Bool.not_eq_true'] at h2
  have hi : i < ops.size := by simpa using h1
  have ho : ops[i]? = some ops[i] := Array.getElem?_eq_getElem hi
  refine ⟨_, ho, h2.1, fun p hp => ?_⟩
  have h3 := h2.2
  rw [ho] at h3
  simp only [Option.map_some, Option.getD_some] at h3
  rw [Array.all_eq_true'] at h3
  obtain ⟨e, he, rfl⟩ := List.mem_map.1 hp
  obtain ⟨he1, he2⟩ := List.mem_filter.1 he
  have := h3 e (by simpa using he1)
  simpa [he2] using this
theorem ready_mk {listed : Array Bool} {i : Nat} {o : Oper} (ho : ops[i]? = some o) (hl : listed.getD i true = false) (hp : ∀ p ∈ direct o, listed.getD p false = true) : i ∈ Region.ready .any ops listed := by
  unfold Region.ready
  refine List.mem_filter.2 ⟨by simpa using (Array.getElem?_eq_some_iff.1 ho).1, ?_⟩
  simp only [hl, Bool.not_false, Bool.true_and, ho, Option.map_some, Option.getD_some]
  rw [Array.all_eq_true']
  intro e he
  cases hb : Region.binds .any e with
  | false => simp
  | true =>
    have : e.on ∈ direct o := List.mem_map.2 ⟨e, List.mem_filter.2 ⟨by simpa using he, hb⟩, rfl⟩
    simp [hp _ this]
theorem getD_set {l : Array Bool} {i j : Nat} {b : Bool} (hi : i < l.size) : (l.setIfInBounds i true).getD j b = if i = j then true else l.getD j b := by
  simp only [Array.getD_eq_getD_getElem?, Array.getElem?_setIfInBounds]
  by_cases h : i = j
  · subst h; simp [hi]
  · simp [h]

structure Rest (B : Bool) (φ : Fr) (ops : Array Oper) (sl : List SOper) (E : List Nat) (T : List (List Nat)) (pk : Nat → Bool × SOper) (listed : Array Bool) (R : List Nat) : Prop where
  size : listed.size = ops.size
  nodup : R.Nodup
  mem : ∀ i, i ∈ R ↔ i < ops.size ∧ listed.getD i true = false
  pair : R.Pairwise (PairOk B sl E T)
  pre : ∀ R1 j R2, R = R1 ++ j :: R2 → ∀ o, ops[j]? = some o → ∀ p ∈ direct o, p ∈ R1 ∨ listed.getD p false = true
  inv : ∀ (k : Nat) ys, T[k]? = some ys → listed.getD k false = true → ∀ y ∈ ys, listed.getD y false = true
  nb : ∀ i ∈ R, ∀ d, (pk i).2.dst = some d → isBox (look φ d) = false
  bx : B = true → ∀ i ∈ R, ∀ d, boxSt (pk i).2.op = some d → isBox (look φ d) = true

theorem Rest.first {B : Bool} {listed : Array Bool} {r : Nat} {R : List Nat} (h : Rest B φ ops sl E T pk listed (r :: R)) : r ∈ Region.ready .any ops listed := by
  have h0 := (h.mem r).1 (by simp)
  refine ready_mk (Array.getElem?_eq_getElem h0.1) h0.2 fun p hp => ?_
  rcases h.pre [] r R rfl _ (Array.getElem?_eq_getElem h0.1) p hp with q | q
  · simp at q
  · exact q

theorem Rest.drop {B : Bool} {listed : Array Bool} {i : Nat} {R1 R2 : List Nat} {o : Oper} {φ' : Fr} (h : Rest B φ ops sl E T pk listed (R1 ++ i :: R2)) (ho : ops[i]? = some o) (hp : ∀ p ∈ direct o, listed.getD p false = true)
    (hT : ∀ ys, T[i]? = some ys → ∀ y ∈ ys, listed.getD y false = true) (hbare : ∀ t, (pk i).2.dst ≠ some t → bare (look φ' t) = bare (look φ t)) (hd : ∀ j ∈ R1 ++ R2, dstEq (pk j).2 (pk i).2 = false) :
    Rest B φ' ops sl E T pk (listed.setIfInBounds i true) (R1 ++ R2) := by
  have hi : i < listed.size := by rw [h.size]; exact (Array.getElem?_eq_some_iff.1 ho).1
  have hnd : (i :: (R1 ++ R2)).Nodup := (List.perm_middle.nodup_iff).1 h.nodup
  obtain ⟨hni, hnd'⟩ := List.nodup_cons.1 hnd
  have hmem : ∀ j, j ∈ R1 ++ i :: R2 ↔ j = i ∨ j ∈ R1 ++ R2 := fun j => by rw [List.perm_middle.mem_iff, List.mem_cons]
  have hsub : (R1 ++ R2).Sublist (R1 ++ i :: R2) := List.Sublist.append_left (List.sublist_cons_self i R2) R1
  refine ⟨by simp [h.size], hnd', fun j => ?_, h.pair.sublist hsub, fun S1 j S2 hS o' ho' p hp' => ?_, fun k ys hk hl y hy => ?_, fun j hj d hdj => ?_, fun hB j hj d hdj => ?_⟩
  · rw [getD_set hi]
    by_cases e : i = j
    · subst e; simp [hni]
    · rw [if_neg e, ← h.mem j, hmem]
      constructor
      · exact fun q => .inr q
      · rintro (q | q)
        · exact absurd q.symm e
        · exact q
  · rw [getD_set hi]
    by_cases e : i = p
    · right; rw [if_pos e]
    rw [if_neg e]
    -- where j stood before
    have hsplit : ∃ U1 U2, R1 ++ i :: R2 = U1 ++ j :: U2 ∧ ∀ q ∈ U1, q = i ∨ q ∈ S1 := by
      rcases List.append_eq_append_iff.1 hS with ⟨us, h1, h2⟩ | ⟨bs, h1, h2⟩
      · -- S1 = R1 ++ us, R2 = us ++ j :: S2
        refine ⟨R1 ++ i :: us, S2, by rw [h2]; simp, fun q hq => ?_⟩
        rw [h1]
        simp at hq ⊢
        rcases hq with q' | q' | q'
        · exact .inr (.inl q')
        · exact .inl q'
        · exact .inr (.inr q')
      · -- R1 = S1 ++ bs, j :: S2 = bs ++ R2
        cases bs with
        | nil =>
          simp only [List.append_nil, List.nil_append] at h1 h2
          refine ⟨S1 ++ [i], S2, by rw [h1, ← h2]; simp, fun q hq => ?_⟩
          simp at hq
          exact hq.symm
        | cons b bs =>
          simp only [List.cons_append, List.cons.injEq] at h2
          obtain ⟨rfl, h2⟩ := h2
          exact ⟨S1, bs ++ i :: R2, by rw [h1]; simp, fun q hq => .inr hq⟩
    obtain ⟨U1, U2, hU, hq⟩ := hsplit
    rcases h.pre U1 j U2 hU o' ho' p hp' with q | q
    · rcases hq p q with r | r
      · exact absurd r.symm e
      · exact .inl r
    · exact .inr q
  · rw [getD_set hi] at hl ⊢
    by_cases e : i = y
    · rw [if_pos e]
    rw [if_neg e]
    by_cases e' : i = k
    · subst e'
      exact hT ys hk y hy
    · rw [if_neg e'] at hl
      exact h.inv k ys hk hl y hy
  · have hne : (pk i).2.dst ≠ some d := fun q => by
      have := hd j hj
      simp [dstEq, hdj, q] at this
    rw [bare_isBox (hbare d hne)]
    exact h.nb j ((hmem j).2 (.inr hj)) d hdj
  · have h6 := h.bx hB j ((hmem j).2 (.inr hj)) d hdj
    have hne : (pk i).2.dst ≠ some d := fun q => by
      rw [h.nb i ((hmem i).2 (.inl rfl)) d q] at h6
      cases h6
    rw [bare_isBox (hbare d hne)]
    exact h6

/-- one operation asks more than another -/
def Weak (y z : SOper) : Prop := ∀ (P : Program) (Γr : Ctx) (early : Bool) (φ : Fr) (Γ : Ctx) (k : Fr → Ctx → Prop), vc1 P Γr early y φ Γ k → vc1 P Γr early z φ Γ k
theorem Weak.loadB {d : Option Nat} {g : Option (Nat × Bool)} {q : Option Nat} {agg : Bool} {n : Nat} {x : Operand} : Weak ⟨d, g, .loadB q agg n x⟩ ⟨d, g, .load agg n x⟩ := by
  intro P Γr early φ Γ k h
  unfold vc1 at h ⊢
  simp only [isPure, isAsk, cond_true, cond_false] at h ⊢
  split at h
  · rename_i e he
    simp only [askV] at h ⊢
    exact h.2
  · exact h.elim
theorem annot_at : ∀ (sl : List SOper) (B : List Nat) (i : Nat) (z : SOper), sl[i]? = some z → ∃ y, (annot sl B)[i]? = some y ∧ Weak y z
  | sl, [], i, z, h => by
    have : annot sl [] = sl := by cases sl with | nil => rfl | cons o r => obtain ⟨d, g, op⟩ := o; cases op <;> rfl
    rw [this]
    exact ⟨z, h, fun _ _ _ _ _ _ q => q⟩
  | [], c :: cs, i, z, h => by simp at h
  | o :: r, c :: cs, i, z, h => by
    obtain ⟨d, g, op⟩ := o
    have key : ∃ y, annot (⟨d, g, op⟩ :: r) (c :: cs) = y :: annot r cs ∧ Weak y ⟨d, g, op⟩ := by
      cases op with
      | load agg n x =>
        match c with
        | 0 => exact ⟨_, rfl, fun _ _ _ _ _ _ q => q⟩
        | 1 => exact ⟨_, rfl, Weak.loadB⟩
        | s + 2 => exact ⟨_, rfl, Weak.loadB⟩
      | _ => exact ⟨_, rfl, fun _ _ _ _ _ _ q => q⟩
    obtain ⟨y, hy, hw⟩ := key
    rw [hy]
    cases i with
    | zero =>
      simp at h
      subst h
      exact ⟨y, by simp, hw⟩
    | succ i =>
      simp at h ⊢
      exact annot_at r cs i z h

theorem drawn_go {B : Bool} (hK : Ext K) (hsl : ∀ (i : Nat) o, ops[i]? = some o → ∃ y z, sl[i]? = some y ∧ trOper P n locs ops o = some z ∧ Weak y z) (hpk : ∀ (i : Nat) y, sl[i]? = some y → pk i = (E.contains i, y))
    (hT : ∀ (k : Nat) ys, T[k]? = some ys → ∃ o, ops[k]? = some o ∧ ∀ y ∈ ys, y ∈ direct o ∨ ∃ p ∈ direct o, ∃ zs, T[p]? = some zs ∧ y ∈ zs)
    (hQ : ∀ φ Γ a w, K φ Γ → St n Γr Γm w0 φ Γ a w → Q .normal a w) :
    ∀ (m : Nat) (R : List Nat) (listed : Array Bool) φ Γ a w, R.length = m → Rest B φ ops sl E T pk listed R → vcD P Γr (R.map pk) φ Γ K → St n Γr Γm w0 φ Γ a w → wpAny P .any ops Q m listed a w
  | 0, R, listed, φ, Γ, a, w, hl, hrest, hv, hst => by
    obtain rfl := List.eq_nil_of_length_eq_zero hl
    refine ⟨?_, hQ _ _ _ _ hv hst⟩
    refine List.eq_nil_iff_forall_not_mem.2 fun i hi => ?_
    obtain ⟨o, ho, h1, _⟩ := ready_iff hi
    have := (hrest.mem i).2 ⟨(Array.getElem?_eq_some_iff.1 ho).1, h1⟩
    simp at this
  | m + 1, R, listed, φ, Γ, a, w, hl, hrest, hv, hst => by
    simp only [wpAny]
    refine ⟨fun hnil => ?_, fun i hi => ?_⟩
    · cases R with
      | nil => simp at hl
      | cons r R =>
        have := hrest.first
        rw [hnil] at this
        simp at this
    · obtain ⟨o, ho, hli, hdir⟩ := ready_iff hi
      have hmi : i ∈ R := (hrest.mem i).2 ⟨(Array.getElem?_eq_some_iff.1 ho).1, hli⟩
      obtain ⟨R1, R2, rfl⟩ := List.append_of_mem hmi
      obtain ⟨y, yz, hy, htr, hweak⟩ := hsl i o ho
      have hTi : ∀ ys, T[i]? = some ys → ∀ z ∈ ys, listed.getD z false = true := fun ys hys z hz => by
        obtain ⟨o', ho', hall⟩ := hT i ys hys
        rw [ho] at ho'
        cases ho'
        rcases hall z hz with q | ⟨p, hp, zs, hzs, hz'⟩
        · exact hdir z q
        · exact hrest.inv p zs hzs (hdir p hp) z hz'
      have hpair := hrest.pair
      rw [List.pairwise_append] at hpair
      obtain ⟨hp1, hp2, hp3⟩ := hpair
      have hp2 := List.pairwise_cons.1 hp2
      have hd1 : ∀ x ∈ R1, (mayPass (pk x) (pk i) = true ∨ (B = true ∧ passB (pk x).2 (pk i).2 = true)) ∧ dstEq (pk x).2 (pk i).2 = false := fun x hx => by
        obtain ⟨sx, sy, tj, h1, h2, h3, h4, h5⟩ := hp3 x hx i (by simp)
        rw [hpk x sx h1, hpk i sy h2]
        refine ⟨?_, h4⟩
        rcases h5 with q | q
        · exfalso
          have := hTi tj h3 x q
          have hx' := (hrest.mem x).1 (by simp [hx])
          have e : listed.getD x false = listed.getD x true := by
            have : x < listed.size := by rw [hrest.size]; exact hx'.1
            simp [Array.getD_eq_getD_getElem?, this]
          rw [e, hx'.2] at this
          cases this
        · exact q
      have hd2 : ∀ x ∈ R2, dstEq (pk x).2 (pk i).2 = false := fun x hx => by
        obtain ⟨sx, sy, tj, h1, h2, h3, h4, h5⟩ := hp2.1 x hx
        rw [hpk x sy h2, hpk i sx h1]
        simp only
        unfold dstEq at h4 ⊢
        cases h6 : sx.dst <;> cases h7 : sy.dst <;> simp_all
        exact fun q => h4 q.symm
      have hbx : ∀ d, boxSt (pk i).2.op = some d → ∀ z ∈ R1.map pk, passB z.2 (pk i).2 = true → isBox (look φ d) = true := fun d hd z hz hp => by
        cases hB : B with
        | true => exact hrest.bx hB i (by simp) d hd
        | false =>
          exfalso
          obtain ⟨j, hj, rfl⟩ := List.mem_map.1 hz
          rcases (hd1 j hj).1 with q | q
          · unfold mayPass at q
            unfold passB at hp
            simp only [Bool.and_eq_true, Bool.not_eq_true'] at q hp
            have h7 := hp.2
            split at h7
            · rename_i ho' hd'
              have h8 := q.2
              obtain ⟨n, v, ho2⟩ := boxSt_spec hd'
              simp [ho', ho2, isLoad, modi] at h8
            · cases h7
          · rw [hB] at q
            cases q.1
      rw [List.map_append, List.map_cons] at hv
      have hb := bubble hK (R1.map pk) φ Γ (by
        intro x hx
        obtain ⟨j, hj, rfl⟩ := List.mem_map.1 hx
        exact ⟨(hd1 j hj).1.imp id (·.2), (hd1 j hj).2⟩) (fun d hd => hrest.nb i (by simp) d hd) (fun d hd ⟨z, hz, hp⟩ => hbx d hd z hz hp) hv
      rw [hpk i y hy] at hb
      have hmv := vc1_move (dx := none) (s := .dead) (ψ := φ) (fun _ => rfl) rfl (fun _ q => by cases q) (fun _ q => by cases q) hb
      refine one_sound ho htr (hweak _ _ _ _ _ _ hmv) hst ?_
      rintro ψ' Γ' a' w' ⟨φ', hk, hle, haf⟩ hst'
      have hk' : vcD P Γr ((R1 ++ R2).map pk) ψ' Γ' K := by
        rw [List.map_append]
        exact vcD_ext hK _ _ _ _ hle hk
      refine drawn_go hK hsl hpk hT hQ m (R1 ++ R2) _ ψ' Γ' a' w' (by simp at hl ⊢; omega) (hrest.drop ho hdir hTi (fun t ht => haf.1 t (by rw [hpk i y hy] at ht; exact ht)) ?_) hk' hst'
      intro j hj
      rcases List.mem_append.1 hj with q | q
      · exact (hd1 j q).2
      · exact hd2 j q

/-! trees of operations -/
def rmT (i : Nat) : DT Nat → Option (DT Nat)
  | .q x r => if x = i then some r else (rmT i r).map (.q x)
  | .alt e r s => if e = i then some r else rmT i s
  | _ => none
def vcN (P : Program) (Γr : Ctx) (pk : Nat → Bool × SOper) : DT Nat → Fr → Ctx → (Fr → Ctx → Prop) → Prop
  | .fin, φ, Γ, K => K φ Γ
  | .q x r, φ, Γ, K => vc1 P Γr (pk x).1 (pk x).2 φ Γ (fun φ' Γ' => vcN P Γr pk r φ' Γ' K)
  | .alt e r s, φ, Γ, K => vc1 P Γr (pk e).1 (pk e).2 φ Γ (fun φ' Γ' => vcN P Γr pk r φ' Γ' K) ∧ vcN P Γr pk s φ Γ K
  | .no, _, _, _ => True
theorem vcN_ext {pk : Nat → Bool × SOper} {K : Fr → Ctx → Prop} (hK : Ext K) : ∀ (t : DT Nat), Ext (fun φ Γ => vcN P Γr pk t φ Γ K)
  | .fin => hK
  | .q x r => fun φ ψ Γ hl h => vc1_ext (vcN_ext hK r) hl h
  | .alt e r s => fun φ ψ Γ hl h => ⟨vc1_ext (vcN_ext hK r) hl h.1, vcN_ext hK s φ ψ Γ hl h.2⟩
  | .no => fun _ _ _ _ _ => trivial
theorem vcT_vcN {pk : Nat → Bool × SOper} {K : Fr → Ctx → Prop} (hpk : ∀ (i : Nat) y, sl[i]? = some y → pk i = (E.contains i, y)) : ∀ (t : DT Nat) (u : DT (Bool × SOper)), pickT sl E t = some u → ∀ φ Γ, vcT P Γr u φ Γ K = vcN P Γr pk t φ Γ K
  | .fin, u, h, φ, Γ => by simp only [pickT, Option.some.injEq] at h; subst h; rfl
  | .no, u, h, φ, Γ => by simp only [pickT, Option.some.injEq] at h; subst h; rfl
  | .q x r, u, h, φ, Γ => by
    simp only [pickT] at h
    split at h
    · rename_i y t hy ht
      simp only [Option.some.injEq] at h
      subst h
      simp only [vcT, vcN, hpk x y hy]
      congr 1
      funext φ' Γ'
      exact vcT_vcN hpk r t ht φ' Γ'
    · cases h
  | .alt e r s, u, h, φ, Γ => by
    simp only [pickT] at h
    split at h
    · rename_i y t u' hy ht hu
      simp only [Option.some.injEq] at h
      subst h
      simp only [vcT, vcN, hpk e y hy, vcT_vcN hpk s u' hu]
      congr 2
      funext φ' Γ'
      exact vcT_vcN hpk r t ht φ' Γ'
    · cases h

theorem okT_sub : ∀ (t : DT Nat) (seen seen' : List Nat), (∀ i ∈ seen', i ∈ seen) → okT sl E T seen t = true → okT sl E T seen' t = true
  | .fin, _, _, _, _ => rfl
  | .no, _, _, _, _ => rfl
  | .q x r, seen, seen', hs, h => by
    simp only [okT, Bool.and_eq_true, List.all_eq_true] at h ⊢
    exact ⟨fun i hi => h.1 i (hs i hi), okT_sub r _ _ (fun i hi => by
      rcases List.mem_cons.1 hi with rfl | q
      · simp
      · simp [hs i q]) h.2⟩
  | .alt e r s, seen, seen', hs, h => by
    simp only [okT, Bool.and_eq_true, List.all_eq_true] at h ⊢
    exact ⟨⟨fun i hi => h.1.1 i (hs i hi), okT_sub r _ _ hs h.1.2⟩, okT_sub s _ _ hs h.2⟩
theorem rm_okT {i : Nat} : ∀ (t t' : DT Nat) (seen : List Nat), rmT i t = some t' → okT sl E T seen t = true → okT sl E T seen t' = true ∧ ∀ y ∈ seen, pairB sl E T y i = true
  | .fin, t', seen, h, _ => by simp [rmT] at h
  | .no, t', seen, h, _ => by simp [rmT] at h
  | .q x r, t', seen, h, hok => by
    simp only [rmT] at h
    have hok' := hok
    simp only [okT, Bool.and_eq_true, List.all_eq_true] at hok'
    split at h
    · rename_i e
      simp only [Option.some.injEq] at h
      subst h e
      exact ⟨okT_sub r _ _ (fun i hi => by simp [hi]) hok'.2, hok'.1⟩
    · simp only [Option.map_eq_some_iff] at h
      obtain ⟨r', hr, rfl⟩ := h
      obtain ⟨h1, h2⟩ := rm_okT r r' _ hr hok'.2
      simp only [okT, Bool.and_eq_true, List.all_eq_true]
      exact ⟨⟨hok'.1, h1⟩, fun y hy => h2 y (by simp [hy])⟩
  | .alt e r s, t', seen, h, hok => by
    simp only [rmT] at h
    simp only [okT, Bool.and_eq_true, List.all_eq_true] at hok
    split at h
    · rename_i e'
      simp only [Option.some.injEq] at h
      subst h e'
      exact ⟨hok.1.2, hok.1.1⟩
    · exact rm_okT s t' seen h hok.2

def inT (D : Nat → Prop) : DT Nat → Prop
  | .q x r => D x ∧ inT D r
  | .alt e r s => D e ∧ inT D r ∧ inT D s
  | _ => True
theorem cT_in {D : Nat → Prop} : ∀ (t : DT Nat) (c : Option (List Nat × List Nat)), cT T c t = true → (match c with | none => ∀ x ∈ opsT t, D x | some (_, O) => ∀ x ∈ O, D x) → inT D t
  | .fin, _, _, _ => trivial
  | .no, _, _, _ => trivial
  | .q x r, none, h, hD => by
    simp only [cT, Bool.and_eq_true] at h
    exact ⟨hD x (by simp [opsT]), cT_in r none h.2 (fun y hy => hD y (by simp [opsT, hy]))⟩
  | .q x r, some (H, O), h, hD => by simp [cT] at h
  | .alt e r s, none, h, hD => by
    simp only [cT, Bool.and_eq_true] at h
    exact ⟨hD e (by simp [opsT]), cT_in r none h.1.2 (fun y hy => hD y (by simp [opsT, hy])), cT_in s (some _) h.2 (fun y hy => hD y (by simpa [opsT] using hy))⟩
  | .alt e r s, some (H, O), h, hD => by
    simp only [cT, Bool.and_eq_true, List.all_eq_true] at h
    have hs : ∀ x ∈ e :: opsT r, x ∈ O := fun x hx => by simpa using h.1.1.2 x hx
    exact ⟨hD e (hs e (by simp)), cT_in r none h.1.2 (fun y hy => hD y (hs y (by simp [hy]))), cT_in s (some (H, O)) h.2 hD⟩
theorem cT_nodup : ∀ (t : DT Nat), cT T none t = true → (opsT t).Nodup
  | .fin, _ => by simp [opsT]
  | .no, _ => by simp [opsT]
  | .q x r, h => by
    simp only [cT, Bool.and_eq_true, Bool.not_eq_true'] at h
    exact List.nodup_cons.2 ⟨by simpa using h.1, cT_nodup r h.2⟩
  | .alt e r s, h => by
    simp only [cT, Bool.and_eq_true, Bool.not_eq_true'] at h
    exact List.nodup_cons.2 ⟨by simpa using h.1.1.1, cT_nodup r h.1.2⟩
/-- what is left -/
theorem rm_cT {i : Nat} : ∀ (t t' : DT Nat) (c : Option (List Nat × List Nat)), rmT i t = some t' → cT T c t = true → cT T none t' = true ∧ (match c with | none => (i :: opsT t').Perm (opsT t) | some (_, O) => O.Nodup → (i :: opsT t').Perm O)
  | .fin, t', _, h, _ => by simp [rmT] at h
  | .no, t', _, h, _ => by simp [rmT] at h
  | .q x r, t', none, h, hc => by
    simp only [rmT] at h
    simp only [cT, Bool.and_eq_true, Bool.not_eq_true'] at hc
    split at h
    · rename_i e
      simp only [Option.some.injEq] at h
      subst h e
      exact ⟨hc.2, List.Perm.refl _⟩
    · simp only [Option.map_eq_some_iff] at h
      obtain ⟨r', hr, rfl⟩ := h
      obtain ⟨h1, h2⟩ := rm_cT r r' none hr hc.2
      have hx : x ∉ opsT r := by simpa using hc.1
      refine ⟨?_, ?_⟩
      · simp only [cT, Bool.and_eq_true, Bool.not_eq_true']
        refine ⟨?_, h1⟩
        have : x ∉ opsT r' := fun q => hx (h2.mem_iff.1 (by simp [q]))
        simpa using this
      · exact (List.Perm.swap x i _).trans (h2.cons x)
  | .q x r, t', some (H, O), h, hc => by simp [cT] at hc
  | .alt e r s, t', none, h, hc => by
    simp only [rmT] at h
    have hnd := cT_nodup _ hc
    simp only [cT, Bool.and_eq_true, Bool.not_eq_true'] at hc
    split at h
    · rename_i e'
      simp only [Option.some.injEq] at h
      subst h e'
      exact ⟨hc.1.2, List.Perm.refl _⟩
    · obtain ⟨h1, h2⟩ := rm_cT s t' (some _) h hc.2
      exact ⟨h1, h2 hnd⟩
  | .alt e r s, t', some (H, O), h, hc => by
    simp only [rmT] at h
    simp only [cT, Bool.and_eq_true, Bool.not_eq_true', List.all_eq_true] at hc
    split at h
    · rename_i e'
      simp only [Option.some.injEq] at h
      subst h e'
      refine ⟨hc.1.2, fun hO => ?_⟩
      have hnd : (e :: opsT r).Nodup := List.nodup_cons.2 ⟨by simpa using hc.1.1.1.1, cT_nodup r hc.1.2⟩
      refine (List.perm_ext_iff_of_nodup hnd hO).2 fun x => ⟨fun q => ?_, fun q => ?_⟩
      · simpa using hc.1.1.2 x q
      · simpa using hc.1.1.1.2 x q
    · obtain ⟨h1, h2⟩ := rm_cT s t' (some (H, O)) h hc.2
      exact ⟨h1, h2⟩
theorem rm_head {i : Nat} : ∀ (t : DT Nat), i ∈ headsT t → ∃ t', rmT i t = some t'
  | .fin, h => by simp [headsT] at h
  | .no, h => by simp [headsT] at h
  | .q _ _, h => by simp [headsT] at h
  | .alt e r s, h => by
    simp only [rmT]
    split
    · exact ⟨_, rfl⟩
    · rename_i hne
      refine rm_head s ?_
      simp only [headsT, List.mem_cons] at h
      rcases h with q | q
      · exact absurd q.symm hne
      · exact q
theorem heads_in {O H : List Nat} : ∀ (t : DT Nat), cT T (some (H, O)) t = true → ∀ x ∈ headsT t, x ∈ O
  | .fin, h, x, hx => by simp [headsT] at hx
  | .no, h, x, hx => by simp [headsT] at hx
  | .q _ _, h, x, hx => by simp [headsT] at hx
  | .alt e r s, h, x, hx => by
    simp only [cT, Bool.and_eq_true, List.all_eq_true] at h
    simp only [headsT, List.mem_cons] at hx
    rcases hx with rfl | q
    · simpa using h.1.1.2 x (by simp)
    · exact heads_in s h.2 x q
/-- what may come up is there -/
theorem rm_there {i : Nat} : ∀ (t : DT Nat), cT T none t = true → i ∈ opsT t → (∀ x ∈ opsT t, ∀ ti, T[i]? = some ti → x ∉ ti) → ∃ t', rmT i t = some t'
  | .fin, _, h, _ => by simp [opsT] at h
  | .no, _, h, _ => by simp [opsT] at h
  | .q x r, hc, h, hT => by
    simp only [rmT]
    simp only [cT, Bool.and_eq_true, Bool.not_eq_true'] at hc
    split
    · exact ⟨_, rfl⟩
    · rename_i hne
      simp only [opsT, List.mem_cons] at h
      rcases h with q | q
      · exact absurd q.symm hne
      · obtain ⟨t', ht⟩ := rm_there r hc.2 q (fun y hy => hT y (by simp [opsT, hy]))
        exact ⟨_, by rw [ht]; rfl⟩
  | .alt e r s, hc, h, hT => by
    by_cases hh : i ∈ headsT (.alt e r s)
    · exact rm_head _ hh
    · exfalso
      simp only [cT, Bool.and_eq_true, List.all_eq_true] at hc
      simp only [opsT, List.mem_cons] at h
      rcases h with q | q
      · exact hh (by simp [headsT, q])
      · have h1 := hc.1.1.2 i q
        simp only [Bool.or_eq_true] at h1
        rcases h1 with h1 | h1
        · exact hh (by simpa [headsT] using h1)
        · split at h1
          · rename_i ti hti
            simp only [List.any_eq_true] at h1
            obtain ⟨z, hz, hz2⟩ := h1
            refine hT z ?_ ti hti (by simpa using hz2)
            simp only [List.mem_cons] at hz
            rcases hz with rfl | hz
            · simp [opsT]
            · simpa [opsT] using heads_in s hc.2 z hz
          · cases h1

/-- what comes up first -/
theorem rm_vcN {pk : Nat → Bool × SOper} {K : Fr → Ctx → Prop} (hK : Ext K) (hpk : ∀ (i : Nat) y, sl[i]? = some y → pk i = (E.contains i, y)) {i : Nat} {D : Nat → Prop} (hT : ∀ ti, T[i]? = some ti → ∀ x ∈ ti, ¬ D x) :
    ∀ (t t' : DT Nat) (seen : List Nat), rmT i t = some t' → okT sl E T seen t = true → inT D t → (∀ x, D x → x ≠ i → ∀ d, (pk i).2.dst = some d → (pk x).2.dst ≠ some d) → ∀ φ Γ, (∀ d, (pk i).2.dst = some d → isBox (look φ d) = false) → vcN P Γr pk t φ Γ K →
      vc1 P Γr (pk i).1 (pk i).2 φ Γ (fun φ' Γ' => vcN P Γr pk t' φ' Γ' K)
  | .fin, t', seen, h, _, _, _, _, _, _, _ => by simp [rmT] at h
  | .no, t', seen, h, _, _, _, _, _, _, _ => by simp [rmT] at h
  | .q x r, t', seen, h, hok, hD, hdst, φ, Γ, hb, hv => by
    simp only [rmT] at h
    simp only [okT, Bool.and_eq_true, List.all_eq_true] at hok
    split at h
    · rename_i e
      simp only [Option.some.injEq] at h
      subst h e
      exact hv
    · rename_i hne
      simp only [Option.map_eq_some_iff] at h
      obtain ⟨r', hr, rfl⟩ := h
      have hp := (rm_okT r r' _ hr hok.2).2 x (by simp)
      unfold pairB at hp
      split at hp
      · rename_i sx si ti h1 h2 h3
        simp only [Bool.and_eq_true, Bool.not_eq_true', Bool.or_eq_true] at hp
        have hxD : D x := hD.1
        have hm : mayPass (E.contains x, sx) (E.contains i, si) = true := by
          rcases hp.2 with q | q
          · exact absurd hxD (hT ti h3 x (by simpa using q))
          · exact q
        have hd := hdst x hxD hne
        have ex := hpk x sx h1
        have ei := hpk i si h2
        simp only [vcN] at hv ⊢
        have hm' := hm
        unfold mayPass at hm'
        simp only [Bool.and_eq_true, Bool.not_eq_true'] at hm'
        rw [ex] at hv
        obtain ⟨s, hs, hk, hans⟩ := vc1_quiet hm'.1.1.1 hv
        have ih := rm_vcN hK hpk hT r r' _ hr hok.2 hD.2 hdst (put φ sx.dst s) Γ (fun d q => by
          rw [look_put, if_neg (fun r => hd d q (by rw [ex]; exact r))]
          exact hb d q) hk
        rw [ei] at ih ⊢
        rw [ex]
        exact vc1_swap (x := (E.contains x, sx)) (y := (E.contains i, si)) (vcN_ext hK r') hm hp.1 (fun d q => hb d (by rw [ei]; exact q)) (hans φ Γ (fun _ _ => rfl) (fun _ _ _ => rfl) (fun _ _ hc => hc) (fun φ1 Γ1 => vc1 P Γr (E.contains i) si φ1 Γ1 (fun φ' Γ' => vcN P Γr pk r' φ' Γ' K)) ih)
      · cases hp
  | .alt e r s, t', seen, h, hok, hD, hdst, φ, Γ, hb, hv => by
    simp only [rmT] at h
    simp only [okT, Bool.and_eq_true, List.all_eq_true] at hok
    split at h
    · rename_i e'
      simp only [Option.some.injEq] at h
      subst h e'
      exact hv.1
    · exact rm_vcN hK hpk hT s t' seen h hok.2 hD.2.2 hdst φ Γ hb hv.2

structure RestT (φ : Fr) (ops : Array Oper) (sl : List SOper) (E : List Nat) (T : List (List Nat)) (pk : Nat → Bool × SOper) (listed : Array Bool) (t : DT Nat) : Prop where
  size : listed.size = ops.size
  mem : ∀ i, i ∈ opsT t ↔ i < ops.size ∧ listed.getD i true = false
  ok : okT sl E T [] t = true
  c : cT T none t = true
  inv : ∀ (k : Nat) ys, T[k]? = some ys → listed.getD k false = true → ∀ y ∈ ys, listed.getD y false = true
  nb : ∀ i ∈ opsT t, ∀ d, (pk i).2.dst = some d → isBox (look φ d) = false

theorem depsOk_spec : ∀ (l : List Oper) (j : Nat), depsOk j l = true → ∀ (k : Nat) o, l[k]? = some o → ∀ p ∈ direct o, p < j + k
  | [], j, _, k, o, h => by simp at h
  | x :: l, j, h, k, o, hk => by
    simp only [depsOk, Bool.and_eq_true, List.all_eq_true, decide_eq_true_eq] at h
    cases k with
    | zero => simp at hk; subst hk; exact fun p hp => h.1 p hp
    | succ k =>
      have := depsOk_spec l (j + 1) h.2 k o (by simpa using hk)
      intro p hp
      have := this p hp
      omega
theorem least_mem : ∀ (l : List Nat), l ≠ [] → ∃ i ∈ l, ∀ j ∈ l, i ≤ j
  | [], h => absurd rfl h
  | [x], _ => ⟨x, by simp, by simp⟩
  | x :: y :: r, _ => by
    obtain ⟨i, hi, hm⟩ := least_mem (y :: r) (by simp)
    by_cases h : x ≤ i
    · exact ⟨x, by simp, fun j hj => by
        rcases List.mem_cons.1 hj with rfl | q
        · exact Nat.le_refl _
        · exact Nat.le_trans h (hm j q)⟩
    · exact ⟨i, by simp [List.mem_cons.1 hi], fun j hj => by
        rcases List.mem_cons.1 hj with rfl | q
        · omega
        · exact hm j q⟩
theorem tree_go {pk : Nat → Bool × SOper} {K : Fr → Ctx → Prop} (hK : Ext K) (hsl : ∀ (i : Nat) o, ops[i]? = some o → ∃ y, sl[i]? = some y ∧ trOper P n locs ops o = some y) (hpk : ∀ (i : Nat) y, sl[i]? = some y → pk i = (E.contains i, y))
    (hdeps : ∀ (k : Nat) o, ops[k]? = some o → ∀ p ∈ direct o, p < k)
    (hdst : ∀ i j, i < ops.size → j < ops.size → i ≠ j → ∀ d, (pk i).2.dst = some d → (pk j).2.dst ≠ some d)
    (hT : ∀ (k : Nat) ys, T[k]? = some ys → ∃ o, ops[k]? = some o ∧ ∀ y ∈ ys, y ∈ direct o ∨ ∃ p ∈ direct o, ∃ zs, T[p]? = some zs ∧ y ∈ zs)
    (hQ : ∀ φ Γ a w, K φ Γ → St n Γr Γm w0 φ Γ a w → Q .normal a w) :
    ∀ (m : Nat) (t : DT Nat) (listed : Array Bool) φ Γ a w, (opsT t).length = m → RestT φ ops sl E T pk listed t → vcN P Γr pk t φ Γ K → St n Γr Γm w0 φ Γ a w → wpAny P .any ops Q m listed a w
  | 0, t, listed, φ, Γ, a, w, hl, hrest, hv, hst => by
    have hnil := List.eq_nil_of_length_eq_zero hl
    have htf : t = .fin := by
      cases t with
      | fin => rfl
      | q x r => simp [opsT] at hnil
      | alt e r s => simp [opsT] at hnil
      | no => have := hrest.c; simp [cT] at this
    subst htf
    refine ⟨?_, hQ _ _ _ _ hv hst⟩
    refine List.eq_nil_iff_forall_not_mem.2 fun i hi => ?_
    obtain ⟨o, ho, h1, _⟩ := ready_iff hi
    have := (hrest.mem i).2 ⟨(Array.getElem?_eq_some_iff.1 ho).1, h1⟩
    simp [opsT] at this
  | m + 1, t, listed, φ, Γ, a, w, hl, hrest, hv, hst => by
    simp only [wpAny]
    have step : ∀ i ∈ Region.ready .any ops listed, wpOp P ops Q i (wpAny P .any ops Q m (listed.setIfInBounds i true)) a w := by
      intro i hi
      obtain ⟨o, ho, hli, hdir⟩ := ready_iff hi
      have hmi : i ∈ opsT t := (hrest.mem i).2 ⟨(Array.getElem?_eq_some_iff.1 ho).1, hli⟩
      obtain ⟨y, hy, htr⟩ := hsl i o ho
      have hTi : ∀ ys, T[i]? = some ys → ∀ z ∈ ys, listed.getD z false = true := fun ys hys z hz => by
        obtain ⟨o', ho', hall⟩ := hT i ys hys
        rw [ho] at ho'
        cases ho'
        rcases hall z hz with q | ⟨p, hp, zs, hzs, hz'⟩
        · exact hdir z q
        · exact hrest.inv p zs hzs (hdir p hp) z hz'
      have hnot : ∀ x, x ∈ opsT t → ¬ listed.getD x false = true := fun x hx q => by
        have hx' := (hrest.mem x).1 hx
        have e : listed.getD x false = listed.getD x true := by
          have : x < listed.size := by rw [hrest.size]; exact hx'.1
          simp [Array.getD_eq_getD_getElem?, this]
        rw [e, hx'.2] at q
        cases q
      obtain ⟨t', ht'⟩ := rm_there t hrest.c hmi (fun x hx ti hti q => hnot x hx (hTi ti hti x q))
      obtain ⟨hc', hperm⟩ := rm_cT t t' none ht' hrest.c
      simp only at hperm
      have hok' := (rm_okT t t' [] ht' hrest.ok).1
      have hlt : ∀ x ∈ opsT t, x < ops.size := fun x hx => ((hrest.mem x).1 hx).1
      have hb := rm_vcN (D := fun x => x ∈ opsT t) hK hpk (fun ti hti x hx q => hnot x q (hTi ti hti x hx)) t t' [] ht' hrest.ok (cT_in t none hrest.c (fun x hx => hx))
        (fun x hx hne d hd => hdst i x (hlt i hmi) (hlt x hx) (fun q => hne q.symm) d hd) φ Γ (hrest.nb i hmi) hv
      rw [hpk i y hy] at hb
      have hmv := vc1_move (dx := none) (s := .dead) (ψ := φ) (fun _ => rfl) rfl (fun _ q => by cases q) (fun _ q => by cases q) hb
      refine one_sound ho htr hmv hst ?_
      rintro ψ' Γ' a' w' ⟨φ', hk, hle, haf⟩ hst'
      have hk' : vcN P Γr pk t' ψ' Γ' K := vcN_ext hK t' _ _ _ hle hk
      have hlen : (opsT t').length = m := by
        have := hperm.length_eq
        simp at this
        omega
      have hi' : i < listed.size := by rw [hrest.size]; exact (Array.getElem?_eq_some_iff.1 ho).1
      have hnd := hperm.nodup_iff.2 (cT_nodup t hrest.c)
      have hni := (List.nodup_cons.1 hnd).1
      refine tree_go hK hsl hpk hdeps hdst hT hQ m t' _ ψ' Γ' a' w' hlen ⟨by simp [hrest.size], fun j => ?_, hok', hc', fun k ys hk2 hl2 z hz => ?_, fun j hj d hd => ?_⟩ hk' hst'
      · rw [getD_set hi']
        by_cases e : i = j
        · subst e; simp [hni]
        · rw [if_neg e, ← hrest.mem j, ← hperm.mem_iff, List.mem_cons]
          constructor
          · exact fun q => .inr q
          · rintro (q | q)
            · exact absurd q.symm e
            · exact q
      · rw [getD_set hi'] at hl2 ⊢
        by_cases e : i = z
        · rw [if_pos e]
        rw [if_neg e]
        by_cases e' : i = k
        · subst e'
          exact hTi ys hk2 z hz
        · rw [if_neg e'] at hl2
          exact hrest.inv k ys hk2 hl2 z hz
      · have hjt : j ∈ opsT t := hperm.mem_iff.1 (by simp [hj])
        have hij : i ≠ j := fun q => by subst q; exact hni hj
        have hne : y.dst ≠ some d := fun q => hdst i j (hlt i hmi) (hlt j hjt) hij d (by rw [hpk i y hy]; exact q) hd
        rw [bare_isBox (haf.1 d hne)]
        exact hrest.nb j hjt d hd
    refine ⟨fun hnil => ?_, step⟩
    -- something may come up
    exfalso
    obtain ⟨i, hi, hmin⟩ : ∃ i, i ∈ opsT t ∧ ∃ o, ops[i]? = some o ∧ ∀ p ∈ direct o, listed.getD p false = true := by
      obtain ⟨i, hi, hmin⟩ := least_mem (opsT t) (fun q => by rw [q] at hl; simp at hl)
      have hlt := ((hrest.mem i).1 hi).1
      refine ⟨i, hi, ops[i], Array.getElem?_eq_getElem hlt, fun p hp => ?_⟩
      have hpi := hdeps i _ (Array.getElem?_eq_getElem hlt) p hp
      have hnp : p ∉ opsT t := fun q => by have := hmin p q; omega
      have hps : p < ops.size := by omega
      have hpl : p < listed.size := by rw [hrest.size]; exact hps
      have h1 : ¬ listed.getD p true = false := fun q => hnp ((hrest.mem p).2 ⟨hps, q⟩)
      have e : listed.getD p false = listed.getD p true := by simp [Array.getD_eq_getD_getElem?, hpl]
      rw [e]
      simpa using h1
    obtain ⟨o, ho, hp⟩ := hmin
    have := ready_mk ho ((hrest.mem i).1 hi).2 hp
    rw [hnil] at this
    simp at this
end
/- The symbolic walk is sound: statements, functions; no condition. -/
theorem look_proj (φ : Fr) : ∀ (L : List Nat) t, look (proj φ L) t = if t ∈ L then look φ t else .dead
  | [], t => by simp [proj, look]
  | k :: L, t => by
    simp only [proj, look]
    by_cases h : k = t
    · subst h; simp
    · have hne : (k == t) = false := by simpa using h
      have h' : ¬ t = k := fun q => h q.symm
      simp [hne, look_proj φ L t, h']

theorem look_zip (φ : Fr) (Δ : Fr) : ∀ (M : List Nat) t, look (zipS M (looks φ M) ++ Δ) t = if t ∈ M then look φ t else look Δ t
  | [], t => by simp [zipS, looks]
  | k :: M, t => by
    simp only [zipS, looks, List.cons_append, look]
    by_cases h : k = t
    · subst h; simp
    · have hne : (k == t) = false := by simpa using h
      have h' : ¬ t = k := fun q => h q.symm
      simp [hne, look_zip φ Δ M t, h']

theorem looks_proj {φ φ' : Fr} : ∀ {N : List Nat}, looks φ' N = looks φ N → ∀ t ∈ N, look φ' t = look φ t
  | [], _, t, h => by simp at h
  | k :: N, h, t, ht => by
    simp only [looks, List.cons.injEq] at h
    rcases List.mem_cons.1 ht with rfl | ht
    · exact h.1
    · exact looks_proj h.2 t ht

section
variable {n : Nat} {Γr Γm : Ctx} {w0 : World} {φ φ' : Fr} {Γ Γ' : Ctx} {a : Act} {w : World} {P : Program}

/-- a frame that says less -/
theorem St.frame (h : St n Γr Γm w0 φ Γ a w) (hl : ∀ t, look φ' t = look φ t ∨ look φ' t = .dead) : St n Γr Γm w0 φ' Γ a w := by
  have hb : ∀ t b T cs, look φ' t = .box b T cs → look φ t = .box b T cs := fun t b T cs q => by
    rcases hl t with r | r
    · rw [← r]; exact q
    · rw [r] at q; cases q
  refine { h with fits := ?_, bx := fun t b T cs q => h.bx t b T cs (hb _ _ _ _ q), bxd := fun t t' b T cs T' cs' q q' => h.bxd _ _ _ _ _ _ _ (hb _ _ _ _ q) (hb _ _ _ _ q') }
  intro t
  rcases hl t with r | r
  · rw [r]; exact h.fits t
  · rw [r]; trivial

theorem St.ent (h : St n Γr Γm w0 φ Γ a w) (he : Ent Γ Γ') : St n Γr Γm w0 φ Γ' a w := by
  obtain ⟨ha1, ha2, ha3⟩ := List.pairwise_append.1 h.sat.apart
  have hcov : ∀ x ∈ Γ', ∀ k, x k ≠ none → ∃ g ∈ Γ, g k ≠ none := fun x hx k hk => by
    cases hxk : x k with
    | none => exact absurd hxk hk
    | some o => obtain ⟨g, hg, hgk⟩ := he.cov x hx k o hxk; exact ⟨g, hg, by rw [hgk]; simp⟩
  refine h.step ?_ (fun x hx k hk => .inr (hcov x hx k hk)) rfl rfl rfl (Nat.le_refl _) (fun _ _ _ => rfl)
  refine ⟨fun x hx k o hk => ?_, List.pairwise_append.2 ⟨he.apart ha1, ha2, fun x hx y hy k => ?_⟩⟩
  · rcases List.mem_append.1 hx with q | q
    · obtain ⟨g, hg, hgk⟩ := he.cov x q k o hk
      exact h.sat.holds g (by simp [hg]) k o hgk
    · exact h.sat.holds x (by simp [q]) k o hk
  · cases hxk : x k with
    | none => exact .inl rfl
    | some o =>
      obtain ⟨g, hg, hgk⟩ := hcov x hx k (by rw [hxk]; simp)
      rcases ha3 g hg y hy k with r | r
      · exact absurd r hgk
      · exact .inr r

theorem St.drewN (h : St n Γr Γm w0 φ Γ a w) (m : Nat) : St n Γr Γm w0 φ Γ a (w.drewN m) :=
  h.step ⟨h.sat.holds, h.sat.apart⟩ (fun g hg k hk => .inr ⟨g, hg, hk⟩) rfl rfl rfl (Nat.le_refl _) (fun _ _ _ => rfl)

def QQ (n : Nat) (Γr Γm : Ctx) (w0 : World) (Q : Post) : Exit → Act → World → Prop
  | .normal, a, w => ∃ φ Γ, Q.nrm φ Γ ∧ St n Γr Γm w0 φ Γ a w
  | .ret, a, w => ∃ φ Γ, Q.ret φ Γ ∧ St n Γr Γm w0 φ Γ a w
  | .exit id, a, w => ∃ φ Γ, Q.ex id φ Γ ∧ St n Γr Γm w0 φ Γ a w
  | _, _, _ => False

/-- a region that draws its order, whose operations only read -/
theorem vcQuiet_sound {locs : List Nat} {ops : Array Oper} {K : Fr → Ctx → Prop} {Qa : Act → Prop} {W : World}
    (hQ : ∀ φ a, K φ Γ → St n Γr Γm w0 φ Γ a W → Qa a) :
    ∀ (l : List Oper) (sl : List SOper), trOpers P n locs ops l = some sl → allQuiet sl = true → ∀ φ a, vcOps P Γr sl φ Γ K → St n Γr Γm w0 φ Γ a W →
      wpQuiet P ops (fun w' => ∃ m, w' = W.drewN m) Qa l a
  | [], sl, h, _, φ, a, hv, hst => by
    simp only [trOpers, Option.some.injEq] at h
    subst h
    exact hQ _ _ hv hst
  | o :: r, sl, h, haq, φ, a, hv, hst => by
    simp only [trOpers] at h
    split at h
    · rename_i so l' hso hl'
      simp only [Option.some.injEq] at h
      subst h
      simp only [allQuiet, Bool.and_eq_true] at haq
      have ih := vcQuiet_sound hQ r l' hl' haq.2
      unfold trOper at hso
      dsimp only at hso
      split at hso
      · rename_i g sop hg htr
        have hdst : so = ⟨o.dst, g, sop⟩ ∧ (∀ t, o.dst = some t → t < n) := by
          split at hso
          · rename_i d hd
            cases hc : (decide (d < n) && noStore sop) with
            | false => rw [hc] at hso; simp at hso
            | true =>
              rw [hc] at hso
              simp only [cond_true, Option.some.injEq] at hso
              simp only [Bool.and_eq_true, decide_eq_true_eq] at hc
              refine ⟨hso.symm, fun t ht => ?_⟩
              rw [hd] at ht; cases ht; exact hc.1
          · rename_i hd
            simp only [Option.some.injEq] at hso
            refine ⟨?_, fun t ht => ?_⟩
            · rw [hd]; exact hso.symm
            · rw [hd] at ht; cases ht
        obtain ⟨rfl, hdn⟩ := hdst
        have hkinds := kinds (n := n) (Γr := Γr) (Γm := Γm) (w0 := w0) htr
        have run : ∀ e : Bool, (e = true → Region.wanted o (yielded ops a.tmps) = true) → (e = false → Region.wanted o (yielded ops a.tmps) = false) →
            ((isPure sop = true ∧ pureV φ e sop (fun x => vcOps P Γr l' (put φ o.dst x) Γ K)) ∨
             (isPure sop = false ∧ isAsk sop = true ∧ askV P (Γ ++ Γr) φ e sop (fun x => vcOps P Γr l' (put φ o.dst x) Γ K))) →
            wpQuiet P ops (fun w' => ∃ m, w' = W.drewN m) Qa (o :: r) a := by
          intro e h1 h2 h3
          unfold wpQuiet
          have slot : ∀ (x : Sl) (v : Value), vcOps P Γr l' (put φ o.dst x) Γ K → notBox x → FitsSl x v → wpQuiet P ops (fun w' => ∃ m, w' = W.drewN m) Qa r (a.put o.dst v) :=
            fun x v hk hnb hf => ih _ _ hk (hst.put hdn hnb hf)
          have go : ∀ (x : Sl), vcOps P Γr l' (put φ o.dst x) Γ K → notBox x → (∀ m, ∃ v, (execOp a.eval o).run P (W.drewN m) = .ok (.value v) (W.drewN m) ∧ FitsSl x v) →
              o.quiet P a (fun w' => ∃ m, w' = W.drewN m) (wpQuiet P ops (fun w' => ∃ m, w' = W.drewN m) Qa r) := by
            intro x hk hnb hall
            obtain ⟨v, hr, hf⟩ := hall 0
            refine ⟨v, fun w' ⟨m, hm⟩ => ?_, slot x v hk hnb hf⟩
            subst hm
            obtain ⟨v', hr', hf'⟩ := hall m
            have := fits_one hnb hf' hf
            subst this
            unfold Oper.quietAt
            rw [hr']
            exact ⟨rfl, rfl⟩
          cases e with
          | false =>
            rw [if_neg (by rw [h2 rfl]; simp)]
            rcases h3 with ⟨hp, hv⟩ | ⟨hp, ha, hv⟩
            · rcases hkinds with ⟨_, hk⟩ | ⟨q, _⟩ | ⟨q, _⟩
              · obtain ⟨sl, hk1, hk2, hk3, _⟩ := hk _ _ _ hv
                exact slot sl undef hk1 hk2 (hk3 rfl)
              · rw [hp] at q; cases q
              · rw [hp] at q; cases q
            · rcases hkinds with ⟨q, _⟩ | ⟨_, _, hk⟩ | ⟨_, q, _⟩
              · rw [hp] at q; cases q
              · obtain ⟨sl, hk1, hk2, hk3, _⟩ := hk _ _ _ _ hv
                exact slot sl undef hk1 hk2 (hk3 rfl)
              · rw [ha] at q; cases q
          | true =>
            rw [if_pos (h1 rfl)]
            rcases h3 with ⟨hp, hv⟩ | ⟨hp, ha, hv⟩
            · rcases hkinds with ⟨_, hk⟩ | ⟨q, _⟩ | ⟨q, _⟩
              · obtain ⟨sl, hk1, hk2, _, hk4⟩ := hk _ _ _ hv
                exact go sl hk1 hk2 (fun m => hk4 rfl a _ hst.fits)
              · rw [hp] at q; cases q
              · rw [hp] at q; cases q
            · rcases hkinds with ⟨q, _⟩ | ⟨_, _, hk⟩ | ⟨_, q, _⟩
              · rw [hp] at q; cases q
              · obtain ⟨sl, hk1, hk2, _, hk4⟩ := hk _ _ _ _ hv
                exact go sl hk1 hk2 (fun m => hk4 rfl a _ (hst.drewN m))
              · rw [ha] at q; cases q
        cases hgd : o.guard with
        | none =>
          rw [hgd] at hg
          simp only [Option.some.injEq] at hg
          subst hg
          simp only [vcOps] at hv
          refine run true (fun _ => wanted_none o hgd _) (fun q => by cases q) ?_
          cases hp : isPure sop with
          | true => rw [hp] at hv; exact .inl ⟨rfl, hv⟩
          | false =>
            rw [hp] at hv
            cases ha : isAsk sop with
            | true => rw [ha] at hv; exact .inr ⟨rfl, rfl, hv⟩
            | false => simp [hp, ha] at haq
        | some jw =>
          obtain ⟨j, want⟩ := jw
          rw [hgd] at hg
          dsimp only at hg
          split at hg
          · rename_i t ht
            cases hc : decide (t < n) with
            | false => rw [hc] at hg; simp at hg
            | true =>
              rw [hc] at hg
              simp only [cond_true, Option.some.injEq] at hg
              subst hg
              have htn : t < a.tmps.size := by rw [hst.n]; exact of_decide_eq_true hc
              simp only [vcOps, gd] at hv
              cases hl : look φ t with
              | v ge x =>
                rw [hl] at hv
                cases x with
                | bool b =>
                  simp only at hv
                  have hfit := hst.fits t
                  rw [hl] at hfit
                  simp only [FitsSl] at hfit
                  have hy : yielded ops a.tmps j = (bif ge then some b else none) := by
                    unfold yielded
                    rw [ht]
                    simp only [Option.bind_some]
                    have : a.tmps[t]? = some (a.tmps.getD t undef) := by simp [Array.getD_eq_getD_getElem?, htn]
                    rw [this, hfit]
                    cases ge <;> rfl
                  have hw : Region.wanted o (yielded ops a.tmps) = (ge && (b == want)) := by
                    unfold Region.wanted
                    rw [hgd]
                    simp only [hy]
                    cases ge <;> cases b <;> cases want <;> rfl
                  refine run (ge && (b == want)) (fun q => by rw [hw]; exact q) (fun q => by rw [hw]; exact q) ?_
                  cases hp : isPure sop with
                  | true => rw [hp] at hv; exact .inl ⟨rfl, hv⟩
                  | false =>
                    rw [hp] at hv
                    cases ha : isAsk sop with
                    | true => rw [ha] at hv; exact .inr ⟨rfl, rfl, hv⟩
                    | false => simp [hp, ha] at haq
                | _ => exact hv.elim
              | _ => rw [hl] at hv; exact hv.elim
          · cases hg
      · cases hso
    · cases h

def pkOf (sl : List SOper) (E : List Nat) (i : Nat) : Bool × SOper := (E.contains i, (sl[i]?).getD ⟨none, none, .alloc true 0 undef⟩)
theorem pickOps_spec {sl : List SOper} {E : List Nat} : ∀ {C : List Nat} {l : List (Bool × SOper)}, pickOps sl E C = some l → l = C.map (pkOf sl E)
  | [], l, h => by simp only [pickOps, Option.some.injEq] at h; subst h; rfl
  | i :: C, l, h => by
    simp only [pickOps] at h
    split at h
    · rename_i x l' hx hl'
      simp only [Option.some.injEq] at h
      subst h
      rw [pickOps_spec hl']
      simp [pkOf, hx]
    · cases h

theorem boxesB_mem {φ : Fr} (l : List (Bool × SOper)) (h : boxesB φ l) (x : Bool × SOper) (hx : x ∈ l) (d : Nat) (hd : boxSt x.2.op = some d) : isBox (look φ d) = true := by
  induction l with
  | nil => cases hx
  | cons y r ih =>
    rcases List.mem_cons.1 hx with q | q
    · subst q
      have h1 := h.1
      rw [hd] at h1
      exact h1
    · exact ih h.2 q
theorem weak_self (sl : List SOper) : ∀ (i : Nat) z, sl[i]? = some z → ∃ y, sl[i]? = some y ∧ Weak y z := fun i z h => ⟨z, h, fun _ _ _ _ _ _ q => q⟩
/-- a region whose order is drawn -/
theorem drawn_sound {B : Bool} {locs : List Nat} {ops : Array Oper} {sl0 sl : List SOper} {C E : List Nat} {T : List (List Nat)} {l : List (Bool × SOper)} {K : Fr → Ctx → Prop} {Q : Exit → Act → World → Prop} {id : Nat}
    (hsl : trOpers P n locs ops ops.toList = some sl0) (hsw : ∀ (i : Nat) z, sl0[i]? = some z → ∃ y, sl[i]? = some y ∧ Weak y z) (ht : trDrawn B P ops sl C E T = some l) (hK : Ext K) (hQ : ∀ φ Γ a w, K φ Γ → St n Γr Γm w0 φ Γ a w → Q .normal a w)
    (hnb : noBoxes φ l) (hbx : B = true → boxesB φ l) (hv : vcD P Γr l φ Γ K) (hst : St n Γr Γm w0 φ Γ a w) : (Code.region id ops true).wp P Q a w := by
  unfold trDrawn at ht
  cases hc : (P.follows .mixedOrders && decide (C.length = ops.size) && (List.range ops.size).all (fun i => C.contains i) && decide (T.length = ops.size) && ancOk ops.toList T 0 T && orderOk B ops.toList sl E T [] C) with
  | false => rw [hc] at ht; simp at ht
  | true =>
    rw [hc] at ht
    simp only [cond_true] at ht
    simp only [Bool.and_eq_true, decide_eq_true_eq, List.all_eq_true] at hc
    obtain ⟨⟨⟨⟨⟨hm, hlen⟩, hall⟩, _⟩, hanc⟩, hord⟩ := hc
    have hl := pickOps_spec ht
    obtain ⟨hnd, _, hlt, hpair, _, hpre⟩ := orderOk_spec C [] hord
    have hA := ancOk_spec T 0 hanc
    obtain ⟨hsl1, hsl2⟩ := trOpers_at hsl
    have hsz : ∀ (i : Nat), (Array.replicate ops.size false).getD i false = false := fun i => by
      simp only [Array.getD_eq_getD_getElem?, Array.getElem?_replicate]
      split <;> rfl
    refine wp_region_any hm ?_
    have hgo := drawn_go (B := B) (locs := locs) (ops := ops) (sl := sl) (E := E) (T := T) (pk := pkOf sl E) (Q := Q) hK (fun i o ho => let ⟨z, hz, hz2⟩ := hsl2 i o (by simpa using ho); let ⟨y, hy, hw⟩ := hsw i z hz; ⟨y, z, hy, hz2, hw⟩) (fun i y hy => by simp [pkOf, hy])
      (fun k ys hk => by
        obtain ⟨o, ho, h⟩ := hA k ys hk
        exact ⟨o, by simpa using ho, h⟩) hQ C.length C (Array.replicate ops.size false) φ Γ a (w.drewN 1) rfl
      ⟨by simp, hnd, fun i => ?_, hpair, fun R1 j R2 hR o ho p hp => ?_, fun k ys _ hk => ?_, fun i hi d hd => ?_, fun hB i hi d hd => ?_⟩ (by rw [← hl]; exact hv) (hst.drewN 1)
    · rw [hlen] at hgo
      exact hgo
    · constructor
      · intro hi
        have := hlt i hi
        simp only [Array.length_toList] at this
        refine ⟨this, ?_⟩
        simp [Array.getD_eq_getD_getElem?, Array.getElem?_replicate, this]
      · rintro ⟨hi, _⟩
        have := hall i (by simpa using hi)
        simpa using this
    · left
      rcases hpre R1 j R2 hR o (by simpa using ho) p hp with q | q
      · simp at q
      · exact q
    · rw [hsz] at hk; cases hk
    · refine noBoxes_mem l hnb (pkOf sl E i) ?_ d hd
      rw [hl]
      exact List.mem_map.2 ⟨i, hi, rfl⟩
    · refine boxesB_mem l (hbx hB) (pkOf sl E i) ?_ d hd
      rw [hl]
      exact List.mem_map.2 ⟨i, hi, rfl⟩

theorem parseT_any : True := trivial
theorem noBoxesT_mem {φ : Fr} {sl : List SOper} {E : List Nat} {pk : Nat → Bool × SOper} (hpk : ∀ (i : Nat) y, sl[i]? = some y → pk i = (E.contains i, y)) : ∀ (t : DT Nat) (u : DT (Bool × SOper)), pickT sl E t = some u → noBoxesT φ u → ∀ i ∈ opsT t, ∀ d, (pk i).2.dst = some d → isBox (look φ d) = false
  | .fin, u, h, hb, i, hi => by simp [opsT] at hi
  | .no, u, h, hb, i, hi => by simp [opsT] at hi
  | .q x r, u, h, hb, i, hi => by
    simp only [pickT] at h
    split at h
    · rename_i y t hy ht
      simp only [Option.some.injEq] at h
      subst h
      simp only [noBoxesT] at hb
      intro d hd
      simp only [opsT, List.mem_cons] at hi
      rcases hi with rfl | hi
      · rw [hpk i y hy] at hd
        have := hb.1
        rw [hd] at this
        exact this
      · exact noBoxesT_mem hpk r t ht hb.2 i hi d hd
    · cases h
  | .alt x r s, u, h, hb, i, hi => by
    simp only [pickT] at h
    split at h
    · rename_i y t u' hy ht hu
      simp only [Option.some.injEq] at h
      subst h
      simp only [noBoxesT] at hb
      intro d hd
      simp only [opsT, List.mem_cons] at hi
      rcases hi with rfl | hi
      · rw [hpk i y hy] at hd
        have := hb.1
        rw [hd] at this
        exact this
      · exact noBoxesT_mem hpk r t ht hb.2 i hi d hd
    · cases h
/-- a region whose order is drawn, told as a tree -/
theorem tree_sound {locs : List Nat} {ops : Array Oper} {sl : List SOper} {C E : List Nat} {T : List (List Nat)} {u : DT (Bool × SOper)} {K : Fr → Ctx → Prop} {Q : Exit → Act → World → Prop} {id : Nat}
    (hsl : trOpers P n locs ops ops.toList = some sl) (ht : trTree P ops sl C E T = some u) (hK : Ext K) (hQ : ∀ φ Γ a w, K φ Γ → St n Γr Γm w0 φ Γ a w → Q .normal a w)
    (hnb : noBoxesT φ u) (hv : vcT P Γr u φ Γ K) (hst : St n Γr Γm w0 φ Γ a w) : (Code.region id ops true).wp P Q a w := by
  unfold trTree at ht
  split at ht
  · rename_i t _ _
    cases hc : (P.follows .mixedOrders && decide ((opsT t).length = ops.size) && (List.range ops.size).all (fun i => (opsT t).contains i) && (opsT t).all (fun i => decide (i < ops.size)) && decide (T.length = ops.size) && ancOk ops.toList T 0 T && okT sl E T [] t && cT T none t && dstsOk sl ops.size && depsOk 0 ops.toList) with
    | false => rw [hc] at ht; simp at ht
    | true =>
      rw [hc] at ht
      simp only [cond_true] at ht
      simp only [Bool.and_eq_true, decide_eq_true_eq, List.all_eq_true] at hc
      obtain ⟨⟨⟨⟨⟨⟨⟨⟨⟨hm, hlen⟩, hall⟩, hlt⟩, _⟩, hanc⟩, hok⟩, hct⟩, hds⟩, hdp⟩ := hc
      have hA := ancOk_spec T 0 hanc
      have hD := depsOk_spec ops.toList 0 hdp
      obtain ⟨hsl1, hsl2⟩ := trOpers_at hsl
      have hpk : ∀ (i : Nat) y, sl[i]? = some y → (fun i => (E.contains i, (sl[i]?).getD ⟨none, none, .dead⟩)) i = (E.contains i, y) := fun i y hy => by simp [hy]
      have hsz : ∀ (i : Nat), (Array.replicate ops.size false).getD i false = false := fun i => by
        simp only [Array.getD_eq_getD_getElem?, Array.getElem?_replicate]
        split <;> rfl
      refine wp_region_any hm ?_
      have hgo := tree_go (locs := locs) (ops := ops) (sl := sl) (T := T) (E := E) (pk := fun i => (E.contains i, (sl[i]?).getD ⟨none, none, .dead⟩)) (Q := Q) hK (fun i o ho => hsl2 i o (by simpa using ho)) hpk
        (fun k o ho p hp => by have := hD k o (by simpa using ho) p hp; omega)
        (fun i j hi hj hij d hdi hdj => by
          unfold dstsOk at hds
          simp only [List.all_eq_true] at hds
          have := hds i (by simpa using hi) j (by simpa using hj)
          simp only [Bool.or_eq_true, beq_iff_eq, hij, false_or] at this
          split at this
          · rename_i x y hx hy
            simp only [hx, Option.getD_some] at hdi
            simp only [hy, Option.getD_some] at hdj
            simp [dstEq, hdi, hdj] at this
          · cases this)
        (fun k ys hk => by
          obtain ⟨o, ho, h⟩ := hA k ys hk
          exact ⟨o, by simpa using ho, h⟩) hQ (opsT t).length t (Array.replicate ops.size false) φ Γ a (w.drewN 1) rfl
        ⟨by simp, fun i => ?_, hok, hct, fun k ys _ hk => ?_, noBoxesT_mem hpk t u ht hnb⟩ (by rw [← vcT_vcN hpk t u ht]; exact hv) (hst.drewN 1)
      · rw [hlen] at hgo
        exact hgo
      · constructor
        · intro hi
          have := hlt i hi
          refine ⟨by simpa using this, ?_⟩
          have h2 : i < ops.size := by simpa using this
          simp [Array.getD_eq_getD_getElem?, Array.getElem?_replicate, h2]
        · rintro ⟨hi, _⟩
          have := hall i (by simpa using hi)
          simpa using this
      · rw [hsz] at hk; cases hk
  · cases ht

theorem St.apt (h : St n Γr Γm w0 φ Γ a w) : Γ.Pairwise Disj := (List.pairwise_append.1 h.sat.apart).1
/-- heaps lent to be read -/
theorem St.lend {Γ1 Γf : Ctx} (h : St n Γr Γm w0 φ (Γ1 ++ Γf) a w) : St n (Γf ++ Γr) Γm w0 φ Γ1 a w :=
  { h with
    bx := fun t b T cs q => let ⟨a1, a2, a3⟩ := h.bx t b T cs q; ⟨a1, a2, fun g hg => a3 g (by simpa [List.append_assoc] using hg)⟩
    sat := by have := h.sat; rwa [List.append_assoc] at this
    own := fun g hg => h.own g (by simp [hg]) }
theorem St.back {Γ1 Γf : Ctx} (h : St n (Γf ++ Γr) Γm w0 φ Γ1 a w) (ho : ∀ g ∈ Γf, ∀ k, g k ≠ none → w0.heap.size ≤ k ∨ ∃ g' ∈ Γm, g' k ≠ none) : St n Γr Γm w0 φ (Γ1 ++ Γf) a w :=
  { h with
    bx := fun t b T cs q => let ⟨a1, a2, a3⟩ := h.bx t b T cs q; ⟨a1, a2, fun g hg => a3 g (by simpa [List.append_assoc] using hg)⟩
    sat := by have := h.sat; rwa [← List.append_assoc] at this
    own := fun g hg => by
      rcases List.mem_append.1 hg with q | q
      · exact h.own g q
      · exact ho g q }
theorem proj_ext {φ ψ : Fr} (h : LookEq φ ψ) : ∀ (L : List Nat), proj φ L = proj ψ L
  | [] => rfl
  | t :: L => by simp only [proj]; rw [h t, proj_ext h L]

theorem vc_sound {locs : List Nat} : ∀ (c : Code) (A : List (List Nat)) (s : Stmt) (A' : List (List Nat)), trCode P n locs c A = some (s, A') →
    ∀ (Q : Post) φ Γ a w, vc P Γr s φ Γ Q → St n Γr Γm w0 φ Γ a w → c.wp P (QQ n Γr Γm w0 Q) a w
  | .skip, A, s, A', h, Q, φ, Γ, a, w, hv, hst => by
    simp only [trCode, Option.some.injEq, Prod.mk.injEq] at h
    obtain ⟨rfl, rfl⟩ := h
    exact wp_skip ⟨φ, Γ, hv, hst⟩
  | .ret, A, s, A', h, Q, φ, Γ, a, w, hv, hst => by
    simp only [trCode, Option.some.injEq, Prod.mk.injEq] at h
    obtain ⟨rfl, rfl⟩ := h
    exact wp_ret ⟨φ, Γ, hv, hst⟩
  | .exit id, A, s, A', h, Q, φ, Γ, a, w, hv, hst => by
    simp only [trCode, Option.some.injEq, Prod.mk.injEq] at h
    obtain ⟨rfl, rfl⟩ := h
    exact wp_exit ⟨φ, Γ, hv, hst⟩
  | .region id ops draw, A, s, A', h, Q, φ, Γ, a, w, hv, hst => by
    simp only [trCode] at h
    split at h
    · rename_i L A1
      split at h
      · rename_i sl hsl
        have hproj : ∀ φ' t, look (proj φ' L) t = look φ' t ∨ look (proj φ' L) t = .dead := fun φ' t => by
          rw [look_proj]
          by_cases hm : t ∈ L
          · left; rw [if_pos hm]
          · right; rw [if_neg hm]
        cases draw with
        | false =>
          simp only [cond_false, Option.some.injEq, Prod.mk.injEq] at h
          obtain ⟨rfl, rfl⟩ := h
          simp only [vc] at hv
          refine wp_region_list (vcOps_sound (K := Fin L Q.nrm) ?_ ops.toList sl hsl φ Γ a w hv hst)
          intro φ' Γ' a' w' hk hst'
          exact ⟨proj φ' L, Γ', hk, hst'.frame (hproj φ')⟩
        | true =>
          cases hc : (P.follows .mixedOrders && Region.lexB .any ops && allQuiet sl) with
          | false =>
            rw [hc] at h
            simp only [cond_true, cond_false] at h
            split at h
            · rename_i B C E A'
              split at h
              · rename_i l hl
                simp only [Option.some.injEq, Prod.mk.injEq] at h
                obtain ⟨rfl, rfl⟩ := h
                simp only [vc] at hv
                obtain ⟨hnb, hbx, hv⟩ := hv
                refine drawn_sound (B := true) (K := Fin L Q.nrm) hsl (annot_at sl B) hl (fun φ ψ Γ h k => ?_) ?_ hnb (fun _ => hbx) hv hst
                · unfold Fin at k ⊢
                  rw [← proj_ext h]
                  exact k
                · intro φ' Γ' a' w' hk hst'
                  exact ⟨proj φ' L, Γ', hk, hst'.frame (hproj φ')⟩
              · cases h
            · rename_i C E A' _
              split at h
              · rename_i l hl
                simp only [Option.some.injEq, Prod.mk.injEq] at h
                obtain ⟨rfl, rfl⟩ := h
                simp only [vc] at hv
                obtain ⟨hnb, Γ1, Γf, J, hent, hv, hJ⟩ := hv
                have hst1 := hst.ent hent
                refine tree_sound (Γr := Γf ++ Γr) (K := fun φ' Γ' => Up (Γ' ++ Γf) (J (proj φ' L))) hsl hl (fun φ ψ Γ h k => ?_) ?_ hnb hv hst1.lend
                · simp only at k ⊢
                  rw [← proj_ext h]
                  exact k
                · intro φ' Γ' a' w' hk hst'
                  have hbk := hst'.back (fun g hg => hst1.own g (by simp [hg]))
                  obtain ⟨Γ'', hent', hk⟩ := hk hbk.apt
                  exact ⟨proj φ' L, Γ'', hJ _ _ hk, (hbk.ent hent').frame (hproj φ')⟩
              · cases h
            · rename_i C E A' _
              split at h
              · rename_i l hl
                simp only [Option.some.injEq, Prod.mk.injEq] at h
                obtain ⟨rfl, rfl⟩ := h
                simp only [vc] at hv
                obtain ⟨hnb, hv⟩ := hv
                cases he : anyEarly l with
                | false =>
                  rw [he] at hv
                  simp only [cond_false] at hv
                  refine drawn_sound (B := false) (K := Fin L Q.nrm) hsl (weak_self sl) hl (fun φ ψ Γ h k => ?_) ?_ hnb (fun q => by cases q) hv hst
                  · unfold Fin at k ⊢
                    rw [← proj_ext h]
                    exact k
                  · intro φ' Γ' a' w' hk hst'
                    exact ⟨proj φ' L, Γ', hk, hst'.frame (hproj φ')⟩
                | true =>
                  rw [he] at hv
                  simp only [cond_true] at hv
                  obtain ⟨Γ1, Γf, hent, hv⟩ := hv
                  have hst1 := hst.ent hent
                  refine drawn_sound (B := false) (Γr := Γf ++ Γr) (K := fun φ' Γ' => Q.nrm (proj φ' L) (Γ' ++ Γf)) hsl (weak_self sl) hl (fun φ ψ Γ h k => ?_) ?_ hnb (fun q => by cases q) hv hst1.lend
                  · simp only at k ⊢
                    rw [← proj_ext h]
                    exact k
                  · intro φ' Γ' a' w' hk hst'
                    exact ⟨proj φ' L, _, hk, (hst'.back (fun g hg => hst1.own g (by simp [hg]))).frame (hproj φ')⟩
              · cases h
            · cases h
          | true =>
            rw [hc] at h
            simp only [cond_true, Option.some.injEq, Prod.mk.injEq] at h
            obtain ⟨rfl, rfl⟩ := h
            simp only [Bool.and_eq_true] at hc
            simp only [vc] at hv
            refine wp_region_quiet (C := fun w' => ∃ m, w' = w.drewN m) hc.1.1 hc.1.2 ⟨1, rfl⟩ ?_
            refine vcQuiet_sound (K := Fin L Q.nrm) (W := w) ?_ ops.toList sl hsl hc.2 φ a hv hst
            intro φ' a' hk hst' w' ⟨m, hm⟩
            subst hm
            exact ⟨proj φ' L, Γ, hk, (hst'.drewN m).frame (hproj φ')⟩
      · cases h
    · cases h
  | .seq c d, A, s, A', h, Q, φ, Γ, a, w, hv, hst => by
    simp only [trCode] at h
    cases hc : decide (nx c ≤ 1) with
    | true =>
      rw [hc] at h
      simp only [cond_true] at h
      split at h
      · rename_i s1 A1 h1
        split at h
        · rename_i s2 A2 h2
          simp only [Option.some.injEq, Prod.mk.injEq] at h
          obtain ⟨rfl, rfl⟩ := h
          simp only [vc] at hv
          refine wp_seq (wp_mono (vc_sound c A s1 A1 h1 _ φ Γ a w hv hst) ?_)
          intro e a' w' hq
          cases e with
          | normal => obtain ⟨φ', Γ', hk, hst'⟩ := hq; exact vc_sound d A1 s2 A2 h2 Q φ' Γ' a' w' hk hst'
          | ret => exact hq
          | exit id => exact hq
          | _ => exact hq.elim
        · cases h
      · cases h
    | false =>
      rw [hc] at h
      simp only [cond_false] at h
      split at h
      · rename_i M N A0
        split at h
        · rename_i s1 A1 h1
          split at h
          · rename_i s2 A2 h2
            simp only [Option.some.injEq, Prod.mk.injEq] at h
            obtain ⟨rfl, rfl⟩ := h
            simp only [vc] at hv
            obtain ⟨J, hv1, hv2⟩ := hv
            refine wp_seq (wp_mono (vc_sound c A0 s1 A1 h1 _ φ Γ a w hv1 hst) ?_)
            intro e a' w' hq
            cases e with
            | normal =>
              obtain ⟨φ', Γ', ⟨hN, hup⟩, hst'⟩ := hq
              obtain ⟨Γ2, hent, hJ⟩ := hup hst'.apt
              refine vc_sound d A1 s2 A2 h2 Q _ Γ2 a' w' (hv2 _ _ hJ) ((hst'.ent hent).frame ?_)
              intro t
              rw [look_zip, look_proj]
              by_cases hM : t ∈ M
              · left; rw [if_pos hM]
              · rw [if_neg hM]
                by_cases hN' : t ∈ N
                · left; rw [if_pos hN']; exact (looks_proj hN t hN').symm
                · right; rw [if_neg hN']
            | ret => exact hq
            | exit id => exact hq
            | _ => exact hq.elim
          · cases h
        · cases h
      · cases h
  | .cond c x y, A, s, A', h, Q, φ, Γ, a, w, hv, hst => by
    simp only [trCode] at h
    split at h
    · rename_i s1 A1 h1
      split at h
      · rename_i s2 A2 h2
        simp only [Option.some.injEq, Prod.mk.injEq] at h
        obtain ⟨rfl, rfl⟩ := h
        simp only [vc] at hv
        split at hv
        · rename_i e b hc
          obtain ⟨rfl, hx, hy⟩ := hv
          have ev := eval_of hst.fits c (by rw [hc])
          rw [hc] at ev
          refine wp_cond_split ev (fun q => ?_) (fun q => ?_)
          · exact vc_sound x A s1 A1 h1 Q φ Γ a w (hx q) hst
          · exact vc_sound y A1 s2 A2 h2 Q φ Γ a w (hy q) hst
        · exact hv.elim
      · cases h
    · cases h
  | .block id c, A, s, A', h, Q, φ, Γ, a, w, hv, hst => by
    simp only [trCode] at h
    split at h
    · rename_i s1 A1 h1
      simp only [Option.some.injEq, Prod.mk.injEq] at h
      obtain ⟨rfl, rfl⟩ := h
      simp only [vc] at hv
      refine wp_block (wp_mono (vc_sound c A s1 A1 h1 _ φ Γ a w hv hst) ?_)
      intro e a' w' hq
      cases e with
      | normal => exact hq
      | ret => exact hq
      | exit j =>
        obtain ⟨φ', Γ', hk, hst'⟩ := hq
        simp only [Post.inBlock] at hk
        simp only [Exit.inBlock]
        by_cases hj : j = id
        · subst hj
          rw [if_pos rfl]
          simp only [BEq.rfl, cond_true] at hk
          exact ⟨φ', Γ', hk, hst'⟩
        · rw [if_neg hj]
          have : (j == id) = false := by simpa using hj
          rw [this] at hk
          exact ⟨φ', Γ', hk, hst'⟩
      | _ => exact hq.elim
    · cases h
  | .loop c, A, s, A', h, Q, φ, Γ, a, w, hv, hst => by
    simp only [trCode] at h
    split at h
    · rename_i M N A0
      split at h
      · rename_i s1 A1 h1
        simp only [Option.some.injEq, Prod.mk.injEq] at h
        obtain ⟨rfl, rfl⟩ := h
        simp only [vc] at hv
        obtain ⟨I, ⟨k0, hup0⟩, hround⟩ := hv
        obtain ⟨Γ0, hent0, hI0⟩ := hup0 hst.apt
        have toFrame : ∀ φ' Γ' a' w', looks φ' N = looks φ N → St n Γr Γm w0 φ' Γ' a' w' → St n Γr Γm w0 (zipS M (looks φ' M) ++ proj φ N) Γ' a' w' := by
          intro φ' Γ' a' w' hN hst'
          refine hst'.frame (fun t => ?_)
          rw [look_zip, look_proj]
          by_cases hM : t ∈ M
          · left; rw [if_pos hM]
          · rw [if_neg hM]
            by_cases hN' : t ∈ N
            · left; rw [if_pos hN']; exact (looks_proj hN t hN').symm
            · right; rw [if_neg hN']
        refine wp_loop_ghost (fun k a w => ∃ vs Γ', I k vs Γ' ∧ St n Γr Γm w0 (zipS M vs ++ proj φ N) Γ' a w) k0 ⟨_, Γ0, hI0, toFrame φ Γ0 a w rfl (hst.ent hent0)⟩ ?_
        intro k a' w' ⟨vs, Γ', hI, hst'⟩
        refine wp_mono (vc_sound c A0 s1 A1 h1 _ _ Γ' a' w' (hround k vs Γ' hI) hst') ?_
        intro e a2 w2 hq
        cases e with
        | normal =>
          obtain ⟨φ2, Γ2, ⟨hN, k', hlt, hup⟩, hst2⟩ := hq
          obtain ⟨Γ3, hent, hI'⟩ := hup hst2.apt
          exact ⟨k', hlt, _, Γ3, hI', toFrame φ2 Γ3 a2 w2 hN (hst2.ent hent)⟩
        | ret => exact hq
        | exit id => exact hq
        | _ => exact hq.elim
      · cases h
    · cases h
  | .rangeFunc _ _ _ _, A, s, A', h, Q, φ, Γ, a, w, hv, hst => by simp [trCode] at h
  | .scope _, A, s, A', h, Q, φ, Γ, a, w, hv, hst => by simp [trCode] at h
  | .label _, A, s, A', h, Q, φ, Γ, a, w, hv, hst => by simp [trCode] at h
  | .goto _, A, s, A', h, Q, φ, Γ, a, w, hv, hst => by simp [trCode] at h
  | .refuse _, A, s, A', h, Q, φ, Γ, a, w, hv, hst => by simp [trCode] at h

theorem look_args : ∀ (l : List Value) (i t : Nat), look (args0 i l) t = match (if i ≤ t then l[t - i]? else none) with | some v => .v true v | none => .dead
  | [], i, t => by simp [args0, look]
  | x :: r, i, t => by
    simp only [args0, look]
    by_cases h : i = t
    · subst h; simp
    · have hne : (i == t) = false := by simpa using h
      simp only [hne, cond_false, look_args r (i + 1) t]
      by_cases hle : i ≤ t
      · have h1 : i + 1 ≤ t := by omega
        rw [if_pos h1, if_pos hle]
        rw [show t - i = (t - (i + 1)) + 1 by omega]
        simp
      · rw [if_neg (by omega), if_neg hle]

theorem resSlots_run : ∀ (l : List ResultVar) (res : List (Nat × Option (Bool × Nat))), resSlots P l = some res → St n Γr Γm w0 φ Γ a w → slotsOn φ res →
    (l.mapM (m := Sem) fun | .tmp t => pure (a.tmps.getD t undef) | .cell c t => do loadVar t (← asAddr (a.tmps.getD c undef))).run P w = .ok (slotVals φ res) w
  | [], res, h, hst, hon => by simp only [resSlots, Option.some.injEq] at h; subst h; rfl
  | .tmp t :: r, res, h, hst, hon => by
    simp only [resSlots] at h
    split at h
    · rename_i l hl
      simp only [Option.some.injEq] at h
      subst h
      have := resSlots_run r l hl hst hon.2
      have h1 := eval_of hst.fits (.tmp t) (by simpa [val] using hon.1)
      simp only [Act.eval, val] at h1
      simp only [List.mapM_cons, Sem.run_bind, Sem.run_pure, Result.andThen_ok, this, slotVals, h1]
    · cases h
  | .cell c T :: r, res, h, hst, hon => by
    simp only [resSlots] at h
    split at h
    · rename_i l m hl hs
      simp only [Option.some.injEq] at h
      subst h
      obtain ⟨hon1, hon2⟩ := hon
      have := resSlots_run r l hl hst hon2
      cases hc : look φ c with
      | box b T' cs =>
        rw [hc] at hon1
        have hf := hst.fits c
        rw [hc] at hf
        simp only [FitsSl] at hf
        obtain ⟨hb, _, _⟩ := hst.bx _ _ _ _ hc
        have hcell : ∀ j v, (cs.take m)[j]? = some v → w.cell? ((⟨b, 0, none⟩ : Addr).add j) = some v := by
          intro j v hv
          rw [add_mk]
          simp only [World.cell?, hb]
          rw [if_neg (by simp)]
          rw [List.getElem?_take] at hv
          split at hv
          · simpa using hv
          · cases hv
        have hrun := mkv_run hs (vs := cs.take m) (by simp; exact Nat.min_eq_left hon1.1) hon1.2 hcell
        simp only [Instr.loadAt, Instr.sureAddr, Sem.run_bind, Sem.run_pure, Result.andThen_ok] at hrun
        have hadr : (asAddr (a.tmps.getD c undef)).run P w = .ok ⟨b, 0, none⟩ w := by rw [hf]; rfl
        simp only [List.mapM_cons, Sem.run_bind, Sem.run_pure, Result.andThen_ok, hadr, hrun, this, slotVals, hc, boxV]
      | _ => rw [hc] at hon1; exact hon1.elim
    · cases h

/-- **A FUNCTION**: what must be shown of its text gives its contract. -/
theorem ret_of_vcE {f : FuncId} {locs : List Nat} {A : List (List Nat)} {S : FnS} (htr : trFn P f locs A = some S) {args : List Value} (hargs : args.length ≤ S.n) {R : Value → Ctx → Prop}
    (Γ0 : Ctx) (hent0 : Ent Γm Γ0) (hv : vc P Γr S.body (args0 0 args) Γ0 (PostR S.res R)) : Ret P f args Γr Γm R := by
  unfold trFn at htr
  split at htr
  · rename_i fn hfn
    split at htr
    · rename_i c res hbody hres
      cases hname : (fn.name == "runtime.NumGoroutine") with
      | true => rw [hname] at htr; simp at htr
      | false =>
        rw [hname] at htr
        simp only [cond_false] at htr
        split at htr
        · rename_i s A' hcode
          simp only [Option.some.injEq] at htr
          subst htr
          refine ⟨by unfold isFn; simp [hfn, hbody, hname], fun w hsat => ?_⟩
          refine calls_of_wp hfn hbody ?_
          dsimp only at hargs hv
          have hst : St fn.ntmps Γr Γm w (args0 0 args) Γm { tmps := args.toArray ++ Array.replicate (fn.ntmps - args.toArray.size) undef, defers := [] } w := by
            refine { n := by simp; omega, defers := rfl, fits := ?_, bx := ?_, bxd := ?_, sat := hsat, own := fun h hh k hk => .inr ⟨h, hh, hk⟩, os := rfl, tape := rfl, output := rfl, size := Nat.le_refl _, same := fun _ _ _ => rfl }
            · intro t
              rw [look_args]
              simp only [Nat.zero_le, if_true, Nat.sub_zero]
              cases hl : args[t]? with
              | none => trivial
              | some v =>
                have hlt : t < args.length := by
                  rcases Nat.lt_or_ge t args.length with h | h
                  · exact h
                  · rw [List.getElem?_eq_none h] at hl; cases hl
                simp only [FitsSl, cond_true]
                rw [Array.getD_eq_getD_getElem?, Array.getElem?_append_left (by simpa using hlt)]
                simp [hl]
            · intro t b T cs hl
              rw [look_args] at hl
              split at hl <;> cases hl
            · intro t t' b T cs T' cs' hl
              rw [look_args] at hl
              split at hl <;> cases hl
          refine wp_mono (vc_sound c A s A' hcode _ _ _ _ _ hv (hst.ent hent0)) ?_
          have fin : ∀ φ Γ a w', ResultP res R φ Γ → St fn.ntmps Γr Γm w φ Γ a w' → a.defers = [] ∧ ∃ v, (results fn a.tmps).run P w' = .ok v w' ∧
              ∃ v' Γ', Ending.returned v = .returned v' ∧ R v' Γ' ∧ Done Γr Γm Γ' w w' := by
            intro φ Γ a w' ⟨hon, hup⟩ hst'
            obtain ⟨Γ', hent, hR⟩ := hup hst'.apt
            have hst2 := hst'.ent hent
            refine ⟨hst'.defers, resV (slotVals φ res), ?_, resV (slotVals φ res), Γ', rfl, hR, ?_⟩
            · have h1 := resSlots_run fn.results.toList res hres hst' hon
              unfold results
              rw [Array.mapM_eq_mapM_toList]
              simp only [Sem.run_bind, Sem.run_map]
              erw [h1]
              simp only [Result.andThen_ok, Sem.run_pure]
              generalize slotVals φ res = l
              match l with
              | [] => rfl
              | [x] => rfl
              | x :: y :: r => simp [resV]
            · exact ⟨hst2.sat, hst2.own, hst2.os, hst2.tape, hst2.output, hst2.size, hst2.same⟩
          intro e a' w' hq
          cases e with
          | normal => obtain ⟨φ', Γ', hk, hst'⟩ := hq; exact fin _ _ _ _ hk hst'
          | ret => obtain ⟨φ', Γ', hk, hst'⟩ := hq; exact fin _ _ _ _ hk hst'
          | exit id => obtain ⟨_, _, hk, _⟩ := hq; exact hk.elim
          | _ => exact hq.elim
        · cases htr
    · cases htr
  · cases htr
theorem Ent.refl' (Γ : Ctx) : Ent Γ Γ := ⟨fun h hh k o hk => ⟨h, hh, hk⟩, id⟩
theorem ret_of_vc {f : FuncId} {locs : List Nat} {A : List (List Nat)} {S : FnS} (htr : trFn P f locs A = some S) {args : List Value} (hargs : args.length ≤ S.n) {R : Value → Ctx → Prop}
    (hv : vc P Γr S.body (args0 0 args) Γm (PostR S.res R)) : Ret P f args Γr Γm R := ret_of_vcE htr hargs Γm (Ent.refl' _) hv
theorem Ent.emp' : Ent [] [emp] := ⟨fun h hh k o hk => by simp at hh; subst hh; simp [emp] at hk, fun _ => by simp⟩
/-- with an empty heap to build in -/
theorem ret_of_vc1 {f : FuncId} {locs : List Nat} {A : List (List Nat)} {S : FnS} (htr : trFn P f locs A = some S) {args : List Value} (hargs : args.length ≤ S.n) {R : Value → Ctx → Prop}
    (hv : vc P Γr S.body (args0 0 args) [emp] (PostR S.res R)) : Ret P f args Γr [] R := ret_of_vcE htr hargs [emp] Ent.emp' hv
end
/- The symbolic walk: how what must be shown is computed, operation by operation; no condition. -/
section
variable (P : Program) (Γr : Ctx)
def Kseq (b : Stmt) (Q : Post) : Fr → Ctx → Prop := fun φ Γ => vc P Γr b φ Γ Q
def condC (v : Bool × Value) (a b : Stmt) (φ : Fr) (Γ : Ctx) (Q : Post) : Prop := match v with
  | (e, .bool x) => e = true ∧ (x = true → vc P Γr a φ Γ Q) ∧ (x = false → vc P Γr b φ Γ Q)
  | _ => False
def joinC (a b : Stmt) (M N : List Nat) (φ : Fr) (Γ : Ctx) (Q : Post) : Prop := vc P Γr (.join a b M N) φ Γ Q
def loopC (a : Stmt) (M N : List Nat) (φ : Fr) (Γ : Ctx) (Q : Post) : Prop := vc P Γr (.loop a M N) φ Γ Q
variable (e : Bool) (d : Option Nat) (r : List SOper) (φ : Fr) (Γ : Ctx) (K : Fr → Ctx → Prop)
def gC (g : Option Bool) (op : SOp) : Prop := match g with
  | some e =>
    bif isPure op then pureV φ e op (fun x => vcOps P Γr r (put φ d x) Γ K)
    else bif isAsk op then askV P (Γ ++ Γr) φ e op (fun x => vcOps P Γr r (put φ d x) Γ K)
    else (e = true → effV P Γr φ Γ d op (fun φ' Γ' => vcOps P Γr r φ' Γ' K)) ∧ (e = false → ∃ x, vcOps P Γr r (put φ d (.v false x)) Γ K)
  | none => False
def pickC (c : Bool × Value) (a b : Bool × Value) : Prop := match c with
  | (ec, .bool cb) => (e = true → ec = true) ∧ (e = true → cb = true → a.1 = true) ∧ (e = true → cb = false → b.1 = true) ∧ vcOps P Γr r (put φ d (.v e (pickV cb a.2 b.2))) Γ K
  | _ => False
def ibinC (op : BinOp) (vx vy : Bool × Value) : Prop := match vx, vy with
  | (ex, .int kx a), (ey, .int ky b) => ibinOk op = true ∧ kx = ky ∧ (e = true → ex = true) ∧ (e = true → ey = true) ∧ vcOps P Γr r (put φ d (.v e (ibinV op kx a b))) Γ K
  | _, _ => False
def sbinC (op : BinOp) (vx vy : Bool × Value) : Prop := match vx, vy with
  | (ex, .string a), (ey, .string b) => ∃ q, sbinV op a b = some q ∧ (e = true → ex = true) ∧ (e = true → ey = true) ∧ vcOps P Γr r (put φ d (.v e q)) Γ K
  | _, _ => False
def beqC (neg : Bool) (vx vy : Bool × Value) : Prop := match vx, vy with
  | (ex, .bool a), (ey, .bool b) => (e = true → ex = true) ∧ (e = true → ey = true) ∧ vcOps P Γr r (put φ d (.v e (.bool ((a == b) != neg)))) Γ K
  | _, _ => False
def nilqC (kd : Nat) (neg : Bool) (vx vy : Bool × Value) : Prop :=
  isNil kd vy.2 = true ∧ (e = true → vy.1 = true) ∧ ∃ q, nilV kd vx.2 = some q ∧ (e = true → vx.1 = true) ∧ vcOps P Γr r (put φ d (.v e (.bool (q != neg)))) Γ K
def unC (op : UnOp) (vx : Bool × Value) : Prop := ∃ q, unV op vx.2 = some q ∧ (e = true → vx.1 = true) ∧ vcOps P Γr r (put φ d (.v e q)) Γ K
def convC (kd : IntKind) (vx : Bool × Value) : Prop := match vx with
  | (ex, .int _ n) => (e = true → ex = true) ∧ vcOps P Γr r (put φ d (.v e (.int kd (kd.wrap n)))) Γ K
  | _ => False
def fldC (off : Nat) (s : Sl) (on : Bool) : Prop := match s with
  | .ref _ s b o => (e = true → on = true) ∧ vcOps P Γr r (put φ d (.ref e s b (o + off))) Γ K
  | .v _ (.pointer (some ⟨b, o, none⟩)) => (e = true → on = true) ∧ vcOps P Γr r (put φ d (.v e (.pointer (some ⟨b, o + off, none⟩)))) Γ K
  | _ => False
def nilCheckC (s : Sl) (on : Bool) : Prop := match s with
  | .ref _ s b o => (e = true → on = true) ∧ vcOps P Γr r (put φ d (.ref e s b o)) Γ K
  | .v _ (.pointer (some a)) => (e = true → on = true) ∧ vcOps P Γr r (put φ d (.v e (.pointer (some a)))) Γ K
  | .v _ (.func (.func f) c1 c2) => (e = true → on = true) ∧ vcOps P Γr r (put φ d (.v e (.func (.func f) c1 c2))) Γ K
  | _ => False
def fieldC (agg : Bool) (off n : Nat) (vx : Bool × Value) : Prop := match vx with
  | (ex, .agg cs) => (e = true → ex = true) ∧ off + n ≤ cs.size ∧ (agg = false → n = 1) ∧ vcOps P Γr r (put φ d (.v e (mkv agg ((cs.toList.drop off).take n)))) Γ K
  | _ => False
def lenC (str : Bool) (vx : Bool × Value) : Prop := ∃ n, lenV str vx.2 = some n ∧ (e = true → vx.1 = true) ∧ vcOps P Γr r (put φ d (.v e (.int .i64 n))) Γ K
def extractC (i : Nat) (vx : Bool × Value) : Prop := match vx with
  | (ex, .tuple vs) => ∃ q, vs.toList[i]? = some q ∧ (e = true → ex = true) ∧ vcOps P Γr r (put φ d (.v e q)) Γ K
  | _ => False
def idivC (op : BinOp) (vx vy : Bool × Value) : Prop := match vx, vy with
  | (ex, .int kx a), (ey, .int ky b) => (op = .quo ∨ op = .rem) ∧ kx = ky ∧ (e = true → ex = true ∧ ey = true ∧ b ≠ 0) ∧ vcOps P Γr r (put φ d (.v e (idivV op kx a b))) Γ K
  | _, _ => False
def ishiftC (op : BinOp) (vx vy : Bool × Value) : Prop := match vx, vy with
  | (ex, .int kx a), (ey, .int ky b) => (op = .shl ∨ op = .shr) ∧ (e = true → ex = true ∧ ey = true ∧ 0 ≤ b) ∧ vcOps P Γr r (put φ d (.v e (ishiftV op kx a b))) Γ K
  | _, _ => False
def idxC (sz : Nat) (vx vy : Bool × Value) : Prop := match vx, vy with
  | (ex, .slice A n cap), (ei, .int ki j) => ∃ b o, (e = true → ex = true ∧ ei = true ∧ A = some ⟨b, o, none⟩ ∧ 0 ≤ j ∧ j < n) ∧ vcOps P Γr r (put φ d (.v e (.pointer (some ⟨b, o + j.toNat * sz, none⟩)))) Γ K
  | _, _ => False
def idxAC (len sz : Nat) (s : Sl) (on : Bool) (vy : Bool × Value) : Prop := match s, vy with
  | .ref _ s b o, (ei, .int ki j) => (e = true → on = true ∧ ei = true ∧ 0 ≤ j ∧ j < len) ∧ vcOps P Γr r (put φ d (.ref e s b (o + j.toNat * sz))) Γ K
  | .v _ (.pointer (some ⟨b, o, none⟩)), (ei, .int ki j) => (e = true → on = true ∧ ei = true ∧ 0 ≤ j ∧ j < len) ∧ vcOps P Γr r (put φ d (.v e (.pointer (some ⟨b, o + j.toNat * sz, none⟩)))) Γ K
  | _, _ => False
/-- a load out of a box -/
def loadB (agg : Bool) (n b o : Nat) (on : Bool) (s : Sl) : Prop := match s with
  | .box b' T cs => b' = b ∧ (e = true → on = true) ∧ o + n ≤ cs.length ∧ (agg = false → n = 1) ∧ vcOps P Γr r (put φ d (.v e (mkv agg ((cs.drop o).take n)))) Γ K
  | _ => False
/-- a load out of a heap -/
def loadP (agg : Bool) (n b o : Nat) (on : Bool) : Prop := (agg = false → n = 1) ∧ ∃ vs, vs.length = n ∧ (e = true → on = true ∧ Cells (Γ ++ Γr) b o vs) ∧ vcOps P Γr r (put φ d (.v e (mkv agg vs))) Γ K
def loadC (agg : Bool) (n : Nat) (s : Sl) (on : Bool) : Prop := match s with
  | .ref _ s b o => loadB P Γr e d r φ Γ K agg n b o on (look φ s)
  | .v _ (.pointer (some ⟨b, o, none⟩)) => loadP P Γr e d r φ Γ K agg n b o on
  | _ => False
def slcC (sz : Nat) (lo hi : Option Operand) (vx : Bool × Value) : Prop := match vx with
  | (ex, .slice A n cap) => ∃ l h, (e = true → ex = true ∧ bnd φ lo l 0 ∧ bnd φ hi h n ∧ l ≤ h ∧ h ≤ cap) ∧
        vcOps P Γr r (put φ d (.v e (.slice (if cap = l then A else A.map (·.add (l * sz))) (h - l) (cap - l)))) Γ K
  | _ => False
def boxC (loc : Bool) (T : TypeId) (vx : Bool × Value) : Prop := match loc with
  | true => vx.1 = true ∧ one' (cellsV vx.2) ∧ ∀ b, vcOps P Γr r (put φ d (.box b T (cellsV vx.2))) Γ K
  | false => vx.1 = true ∧ one' (cellsV vx.2) ∧ ∀ b, vcOps P Γr r (put φ d (.v true (.pointer (some ⟨b, 0, none⟩)))) (one b (.cells (cellsV vx.2).toArray T) :: Γ) K
def allocC (loc : Bool) (T : TypeId) (z : Value) : Prop := match loc with
  | true => ∀ b, vcOps P Γr r (put φ d (.box b T (cellsV z))) Γ K
  | false => ∀ b, vcOps P Γr r (put φ d (.v true (.pointer (some ⟨b, 0, none⟩)))) (one b (.cells (cellsV z).toArray T) :: Γ) K
def buildSC (t : TypeId) (n : Nat) (z : List Value) (parts : List (Nat × Nat × Operand)) : Prop :=
  partOn φ true parts ∧ fits (partVals φ parts) ∧ ∀ b, vcOps P Γr r (put φ d (.v true (.slice (some ⟨b, 0, none⟩) n n))) (one b (.cells (fillL z (partVals φ parts)).toArray t) :: Γ) K
def storeB (n s b o : Nat) (x : Value) (q : Sl) : Prop := match q with
  | .box b' T cs => b' = b ∧ o + n ≤ cs.length ∧ vcOps P Γr r (updBox φ s (setC cs o n x)) Γ K
  | _ => False
def storeP (n b o : Nat) (x : Value) : Prop := ∃ i h cells T, Γ[i]? = some h ∧ h b = some (.cells cells T (0, 0)) ∧ o + n ≤ cells.size ∧
        vcOps P Γr r φ (Γ.set i (upd h b (.cells (setC cells.toList o n x).toArray T))) K
def storeC (n : Nat) (s : Sl) (on : Bool) (vy : Bool × Value) : Prop := on = true ∧ vy.1 = true ∧ (cellsV vy.2).length = n ∧ one' (cellsV vy.2) ∧ (match s with
    | .ref _ s b o => storeB P Γr r φ Γ K n s b o vy.2 (look φ s)
    | .v _ (.pointer (some ⟨b, o, none⟩)) => storeP P Γr r φ Γ K n b o vy.2
    | _ => False)
def appendC (t e : TypeId) (sz bytes : Nat) (z : Value) (vs vx : Bool × Value) : Prop := vs.1 = true ∧ vx.1 = true ∧ (match vx.2 with
    | .slice A m c => ∃ i h n xs news, Γ[i]? = some h ∧ Row h e sz vs.2 n xs ∧ news.length = m * sz ∧ one' news ∧ (m = 0 ∨ ∃ b o, A = some ⟨b, o, none⟩ ∧ Cells (Γ ++ Γr) b o news) ∧
        (n + m) * bytes ≤ 140737488355328 ∧ n + m ≤ maxLen ∧
        ∀ v' h', Row h' e sz v' (n + m) (xs ++ news) → Row h' e sz vs.2 n xs → KeptBut vs.2 v' h h' → vcOps P Γr r (put φ d (.v true v')) (Γ.set i h') K
    | _ => False)
def appzC (t u e : TypeId) (sz bytes : Nat) (z : Value) (vs vx : Bool × Value) : Prop := vs.1 = true ∧ vx.1 = true ∧ (match vs.2, vx.2 with
    | .slice A 0 0, .int .i64 m => 0 ≤ m ∧ m * bytes ≤ 140737488355328 ∧ m ≤ maxLen ∧ ∃ i h, Γ[i]? = some h ∧
        ∀ v' h', Row h' e sz v' m.toNat (zerosL (cellsV z) m.toNat) → KeptBut (.slice A 0 0) v' h h' → vcOps P Γr r (put φ d (.v true v')) (Γ.set i h') K
    | _, _ => False)
def mkC (e : TypeId) (sz bytes : Nat) (z : Value) (vn vc : Bool × Value) : Prop := match vn, vc with
    | (true, .int .i64 m), (true, .int .i64 p) => 0 ≤ m ∧ m ≤ p ∧ p * bytes ≤ 140737488355328 ∧ ∀ b, vcOps P Γr r (put φ d (.v true (.slice (some ⟨b, 0, none⟩) m.toNat p.toNat))) (one b (.cells (zerosL (cellsV z) p.toNat).toArray e) :: Γ) K
    | _, _ => False
def fnC (on : Prop) (v : Option Value) : Prop := ∃ x, (e = true → on ∧ v = some x) ∧ vcOps P Γr r (put φ d (.v e x)) Γ K
def qC (c : Qk) (on : Prop) (vs : List Value) : Prop := ∃ x, (e = true → on ∧ QR P c vs (Γ ++ Γr) x) ∧ vcOps P Γr r (put φ d (.v e x)) Γ K
def aC (c : Qk) (vs : List Value) : Prop := ∀ w, Holds (Γ ++ Γr) w → ∃ v w' m, (qsem c vs).run P w = .ok v w' ∧
      ((w' = w.drewN m ∧ vcOps P Γr r (put φ d (.v true v)) Γ K) ∨ ∃ i h b p q, Γ[i]? = some h ∧ h b = some p ∧ w' = setBlk (w.drewN m) b q ∧ vcOps P Γr r (put φ d (.v true v)) (Γ.set i (upd h b q)) K)
def nC (c : Qk) (vs : List Value) : Prop := ∀ w, Holds (Γ ++ Γr) w → ∃ v q, (qsem c vs).run P w = .ok v (w.alloc q) ∧ vcOps P Γr r (put φ d (.v true v)) (one w.heap.size q :: Γ) K
def callK : Value → Ctx → Prop := fun v Γ' => vcOps P Γr r (put φ d (.v true v)) Γ' K
def callC (vf : Bool × Value) (args : List Value) : Prop := match vf with
    | (true, .func (.func g) c1 c2) => CallVC P Γr g (c1.toList ++ args ++ c2.toList) Γ (callK P Γr d r φ K)
    | _ => False
end

section
variable {P : Program} {Γr : Ctx} {a b : Stmt} {M N L : List Nat} {φ : Fr} {Γ : Ctx} {Q : Post} {ops r : List SOper} {K : Fr → Ctx → Prop} {e : Bool} {d : Option Nat} {id : Nat} {g : Nat × Bool}
theorem e_seq : vc P Γr (.seq a b) φ Γ Q = vc P Γr a φ Γ (Q.seq (Kseq P Γr b Q)) := rfl
theorem e_region : vc P Γr (.region ops L) φ Γ Q = vcOps P Γr ops φ Γ (Fin L Q.nrm) := rfl
theorem e_quiet : vc P Γr (.quiet ops L) φ Γ Q = vcOps P Γr ops φ Γ (Fin L Q.nrm) := rfl
theorem e_join : vc P Γr (.join a b M N) φ Γ Q = joinC P Γr a b M N φ Γ Q := rfl
theorem e_loop : vc P Γr (.loop a M N) φ Γ Q = loopC P Γr a M N φ Γ Q := rfl
theorem e_cond {c : Operand} : vc P Γr (.cond c a b) φ Γ Q = condC P Γr (val φ c) a b φ Γ Q := rfl
theorem e_block : vc P Γr (.block id a) φ Γ Q = vc P Γr a φ Γ (Q.inBlock id) := rfl
theorem e_exit : vc P Γr (.exit id) φ Γ Q = Q.ex id φ Γ := rfl
theorem e_ret : vc P Γr .ret φ Γ Q = Q.ret φ Γ := rfl
theorem e_skip : vc P Γr .skip φ Γ Q = Q.nrm φ Γ := rfl
theorem e_fin : Fin L K φ Γ = K (proj φ L) Γ := rfl
theorem e_kseq : Kseq P Γr b Q φ Γ = vc P Γr b φ Γ Q := rfl
theorem e_snrm : (Q.seq K).nrm = K := rfl
theorem e_sret : (Q.seq K).ret = Q.ret := rfl
theorem e_sex : (Q.seq K).ex = Q.ex := rfl
theorem e_bnrm : (Q.inBlock id).nrm = Q.nrm := rfl
theorem e_bret : (Q.inBlock id).ret = Q.ret := rfl
theorem e_bex {j : Nat} : (Q.inBlock id).ex j φ Γ = (bif j == id then Q.nrm φ Γ else Q.ex j φ Γ) := rfl
theorem e_rnrm {res : List (Nat × Option (Bool × Nat))} {R : Value → Ctx → Prop} : (PostR res R).nrm φ Γ = ResultP res R φ Γ := rfl
theorem e_rret {res : List (Nat × Option (Bool × Nat))} {R : Value → Ctx → Prop} : (PostR res R).ret φ Γ = ResultP res R φ Γ := rfl
theorem e_res {res : List (Nat × Option (Bool × Nat))} {R : Value → Ctx → Prop} : ResultP res R φ Γ = (slotsOn φ res ∧ Up Γ (R (resV (slotVals φ res)))) := rfl
theorem e_condC {x : Bool} : condC P Γr (true, .bool x) a b φ Γ Q = ((x = true → vc P Γr a φ Γ Q) ∧ (x = false → vc P Γr b φ Γ Q)) := by simp [condC]

theorem e_nil : vcOps P Γr [] φ Γ K = K φ Γ := rfl
theorem e_g {op : SOp} : vcOps P Γr (⟨d, some g, op⟩ :: r) φ Γ K = gC P Γr d r φ Γ K (gd φ (some g)) op := rfl
theorem e_mv {x : Operand} : vcOps P Γr (⟨d, none, .mv x⟩ :: r) φ Γ K = ((val φ x).1 = true ∧ vcOps P Γr r (put φ d (slotOf φ true x)) Γ K) := by
  show ((true = true → (val φ x).1 = true) ∧ _) = _
  simp
theorem g_mv {x : Operand} : gC P Γr d r φ Γ K (some e) (.mv x) = ((e = true → (val φ x).1 = true) ∧ vcOps P Γr r (put φ d (slotOf φ e x)) Γ K) := rfl
theorem e_pick {c x y : Operand} : vcOps P Γr (⟨d, none, .pick c x y⟩ :: r) φ Γ K = pickC P Γr true d r φ Γ K (val φ c) (val φ x) (val φ y) := rfl
theorem g_pick {c x y : Operand} : gC P Γr d r φ Γ K (some e) (.pick c x y) = pickC P Γr e d r φ Γ K (val φ c) (val φ x) (val φ y) := rfl
theorem pickC_eq {ec cb : Bool} {x y : Bool × Value} : pickC P Γr e d r φ Γ K (ec, .bool cb) x y = ((e = true → ec = true) ∧ (e = true → cb = true → x.1 = true) ∧ (e = true → cb = false → y.1 = true) ∧ vcOps P Γr r (put φ d (.v e (pickV cb x.2 y.2))) Γ K) := rfl
theorem e_ibin {op : BinOp} {x y : Operand} : vcOps P Γr (⟨d, none, .ibin op x y⟩ :: r) φ Γ K = ibinC P Γr true d r φ Γ K op (val φ x) (val φ y) := rfl
theorem g_ibin {op : BinOp} {x y : Operand} : gC P Γr d r φ Γ K (some e) (.ibin op x y) = ibinC P Γr e d r φ Γ K op (val φ x) (val φ y) := rfl
theorem ibinC_eq {op : BinOp} {ex ey : Bool} {k : IntKind} {m n : Int} : ibinC P Γr e d r φ Γ K op (ex, .int k m) (ey, .int k n) =
    (ibinOk op = true ∧ (e = true → ex = true) ∧ (e = true → ey = true) ∧ vcOps P Γr r (put φ d (.v e (ibinV op k m n))) Γ K) := by simp [ibinC]
theorem e_sbin {op : BinOp} {x y : Operand} : vcOps P Γr (⟨d, none, .sbin op x y⟩ :: r) φ Γ K = sbinC P Γr true d r φ Γ K op (val φ x) (val φ y) := rfl
theorem g_sbin {op : BinOp} {x y : Operand} : gC P Γr d r φ Γ K (some e) (.sbin op x y) = sbinC P Γr e d r φ Γ K op (val φ x) (val φ y) := rfl
theorem e_beq {neg : Bool} {x y : Operand} : vcOps P Γr (⟨d, none, .beq neg x y⟩ :: r) φ Γ K = beqC P Γr true d r φ Γ K neg (val φ x) (val φ y) := rfl
theorem g_beq {neg : Bool} {x y : Operand} : gC P Γr d r φ Γ K (some e) (.beq neg x y) = beqC P Γr e d r φ Γ K neg (val φ x) (val φ y) := rfl
theorem beqC_eq {neg ex ey m n : Bool} : beqC P Γr e d r φ Γ K neg (ex, .bool m) (ey, .bool n) = ((e = true → ex = true) ∧ (e = true → ey = true) ∧ vcOps P Γr r (put φ d (.v e (.bool ((m == n) != neg)))) Γ K) := rfl
theorem e_nilq {kd : Nat} {neg : Bool} {x y : Operand} : vcOps P Γr (⟨d, none, .nilq kd neg x y⟩ :: r) φ Γ K = nilqC P Γr true d r φ Γ K kd neg (val φ x) (val φ y) := rfl
theorem g_nilq {kd : Nat} {neg : Bool} {x y : Operand} : gC P Γr d r φ Γ K (some e) (.nilq kd neg x y) = nilqC P Γr e d r φ Γ K kd neg (val φ x) (val φ y) := rfl
theorem nilqC_sl {neg ex ey : Bool} {A : Option Addr} {n c : Nat} : nilqC P Γr e d r φ Γ K 0 neg (ex, .slice A n c) (ey, .slice none 0 0) = ((e = true → ey = true) ∧ (e = true → ex = true) ∧ vcOps P Γr r (put φ d (.v e (.bool (A.isNone != neg)))) Γ K) := by simp [nilqC, isNil, nilV]
theorem nilqC_pt {neg ex ey : Bool} {A : Option Addr} : nilqC P Γr e d r φ Γ K 1 neg (ex, .pointer A) (ey, .pointer none) = ((e = true → ey = true) ∧ (e = true → ex = true) ∧ vcOps P Γr r (put φ d (.v e (.bool (A.isNone != neg)))) Γ K) := by simp [nilqC, isNil, nilV]
theorem nilqC_mp {neg ex ey : Bool} {A : Option Nat} : nilqC P Γr e d r φ Γ K 2 neg (ex, .map A) (ey, .map none) = ((e = true → ey = true) ∧ (e = true → ex = true) ∧ vcOps P Γr r (put φ d (.v e (.bool (A.isNone != neg)))) Γ K) := by simp [nilqC, isNil, nilV]
theorem e_un {op : UnOp} {x : Operand} : vcOps P Γr (⟨d, none, .un op x⟩ :: r) φ Γ K = unC P Γr true d r φ Γ K op (val φ x) := rfl
theorem g_un {op : UnOp} {x : Operand} : gC P Γr d r φ Γ K (some e) (.un op x) = unC P Γr e d r φ Γ K op (val φ x) := rfl
theorem unC_not {ex m : Bool} : unC P Γr e d r φ Γ K .not (ex, .bool m) = ((e = true → ex = true) ∧ vcOps P Γr r (put φ d (.v e (.bool (!m)))) Γ K) := by simp [unC, unV]
theorem unC_neg {ex : Bool} {k : IntKind} {m : Int} : unC P Γr e d r φ Γ K .neg (ex, .int k m) = ((e = true → ex = true) ∧ vcOps P Γr r (put φ d (.v e (.int k (k.wrap (0 - m))))) Γ K) := by simp [unC, unV]
theorem e_conv {k : IntKind} {x : Operand} : vcOps P Γr (⟨d, none, .conv k x⟩ :: r) φ Γ K = convC P Γr true d r φ Γ K k (val φ x) := rfl
theorem g_conv {k : IntKind} {x : Operand} : gC P Γr d r φ Γ K (some e) (.conv k x) = convC P Γr e d r φ Γ K k (val φ x) := rfl
theorem convC_eq {k kx : IntKind} {ex : Bool} {m : Int} : convC P Γr e d r φ Γ K k (ex, .int kx m) = ((e = true → ex = true) ∧ vcOps P Γr r (put φ d (.v e (.int k (k.wrap m)))) Γ K) := rfl
theorem e_fld {off : Nat} {x : Operand} : vcOps P Γr (⟨d, none, .fld off x⟩ :: r) φ Γ K = fldC P Γr true d r φ Γ K off (slotOf φ true x) (val φ x).1 := rfl
theorem g_fld {off : Nat} {x : Operand} : gC P Γr d r φ Γ K (some e) (.fld off x) = fldC P Γr e d r φ Γ K off (slotOf φ e x) (val φ x).1 := rfl
theorem fldC_ref {off s b o : Nat} {e' on : Bool} : fldC P Γr e d r φ Γ K off (.ref e' s b o) on = ((e = true → on = true) ∧ vcOps P Γr r (put φ d (.ref e s b (o + off))) Γ K) := rfl
theorem fldC_ptr {off b o : Nat} {e' on : Bool} : fldC P Γr e d r φ Γ K off (.v e' (.pointer (some ⟨b, o, none⟩))) on = ((e = true → on = true) ∧ vcOps P Γr r (put φ d (.v e (.pointer (some ⟨b, o + off, none⟩)))) Γ K) := rfl
theorem e_nilCheck {x : Operand} : vcOps P Γr (⟨d, none, .nilCheck x⟩ :: r) φ Γ K = nilCheckC P Γr true d r φ Γ K (slotOf φ true x) (val φ x).1 := rfl
theorem g_nilCheck {x : Operand} : gC P Γr d r φ Γ K (some e) (.nilCheck x) = nilCheckC P Γr e d r φ Γ K (slotOf φ e x) (val φ x).1 := rfl
theorem nilCheckC_ref {s b o : Nat} {e' on : Bool} : nilCheckC P Γr e d r φ Γ K (.ref e' s b o) on = ((e = true → on = true) ∧ vcOps P Γr r (put φ d (.ref e s b o)) Γ K) := rfl
theorem nilCheckC_ptr {ad : Addr} {e' on : Bool} : nilCheckC P Γr e d r φ Γ K (.v e' (.pointer (some ad))) on = ((e = true → on = true) ∧ vcOps P Γr r (put φ d (.v e (.pointer (some ad)))) Γ K) := rfl
theorem nilCheckC_fun {f : FuncId} {c1 c2 : Array Value} {e' on : Bool} : nilCheckC P Γr e d r φ Γ K (.v e' (.func (.func f) c1 c2)) on = ((e = true → on = true) ∧ vcOps P Γr r (put φ d (.v e (.func (.func f) c1 c2))) Γ K) := rfl
theorem e_field {agg : Bool} {off n : Nat} {x : Operand} : vcOps P Γr (⟨d, none, .field agg off n x⟩ :: r) φ Γ K = fieldC P Γr true d r φ Γ K agg off n (val φ x) := rfl
theorem g_field {agg : Bool} {off n : Nat} {x : Operand} : gC P Γr d r φ Γ K (some e) (.field agg off n x) = fieldC P Γr e d r φ Γ K agg off n (val φ x) := rfl
theorem fieldC_eq {agg ex : Bool} {off n : Nat} {cs : List Value} : fieldC P Γr e d r φ Γ K agg off n (ex, .agg cs.toArray) =
    ((e = true → ex = true) ∧ off + n ≤ cs.length ∧ (agg = false → n = 1) ∧ vcOps P Γr r (put φ d (.v e (mkv agg ((cs.drop off).take n)))) Γ K) := by simp [fieldC]
theorem e_len {str : Bool} {x : Operand} : vcOps P Γr (⟨d, none, .len str x⟩ :: r) φ Γ K = lenC P Γr true d r φ Γ K str (val φ x) := rfl
theorem g_len {str : Bool} {x : Operand} : gC P Γr d r φ Γ K (some e) (.len str x) = lenC P Γr e d r φ Γ K str (val φ x) := rfl
theorem lenC_sl {ex : Bool} {A : Option Addr} {n c : Nat} : lenC P Γr e d r φ Γ K false (ex, .slice A n c) = ((e = true → ex = true) ∧ vcOps P Γr r (put φ d (.v e (.int .i64 n))) Γ K) := by simp [lenC, lenV]
theorem lenC_str {ex : Bool} {s : ByteArray} : lenC P Γr e d r φ Γ K true (ex, .string s) = ((e = true → ex = true) ∧ vcOps P Γr r (put φ d (.v e (.int .i64 s.size))) Γ K) := by simp [lenC, lenV]
theorem e_extract {i : Nat} {x : Operand} : vcOps P Γr (⟨d, none, .extract i x⟩ :: r) φ Γ K = extractC P Γr true d r φ Γ K i (val φ x) := rfl
theorem g_extract {i : Nat} {x : Operand} : gC P Γr d r φ Γ K (some e) (.extract i x) = extractC P Γr e d r φ Γ K i (val φ x) := rfl
theorem extractC_eq {ex : Bool} {i : Nat} {vs : List Value} : extractC P Γr e d r φ Γ K i (ex, .tuple vs.toArray) = (∃ q, vs[i]? = some q ∧ (e = true → ex = true) ∧ vcOps P Γr r (put φ d (.v e q)) Γ K) := rfl
theorem e_mkFunc {fn : FuncId} {caps : List Operand} : vcOps P Γr (⟨d, none, .mkFunc fn caps⟩ :: r) φ Γ K = (allOn φ true caps ∧ vcOps P Γr r (put φ d (.v true (.func (.func fn) #[] (vals φ caps).toArray))) Γ K) := rfl
theorem e_build {t : TypeId} {z : List Value} {parts : List (Nat × Nat × Operand)} : vcOps P Γr (⟨d, none, .build t z parts⟩ :: r) φ Γ K =
    (partOn φ true parts ∧ fits (partVals φ parts) ∧ vcOps P Γr r (put φ d (.v true (.agg (fillL z (partVals φ parts)).toArray))) Γ K) := rfl
theorem g_build {t : TypeId} {z : List Value} {parts : List (Nat × Nat × Operand)} : gC P Γr d r φ Γ K (some e) (.build t z parts) =
    (partOn φ e parts ∧ fits (partVals φ parts) ∧ vcOps P Γr r (put φ d (.v e (.agg (fillL z (partVals φ parts)).toArray))) Γ K) := rfl
theorem e_idiv {op : BinOp} {x y : Operand} : vcOps P Γr (⟨d, none, .idiv op x y⟩ :: r) φ Γ K = idivC P Γr true d r φ Γ K op (val φ x) (val φ y) := rfl
theorem g_idiv {op : BinOp} {x y : Operand} : gC P Γr d r φ Γ K (some e) (.idiv op x y) = idivC P Γr e d r φ Γ K op (val φ x) (val φ y) := rfl
theorem idivC_eq {op : BinOp} {ex ey : Bool} {k : IntKind} {m n : Int} : idivC P Γr e d r φ Γ K op (ex, .int k m) (ey, .int k n) =
    ((op = .quo ∨ op = .rem) ∧ (e = true → ex = true ∧ ey = true ∧ n ≠ 0) ∧ vcOps P Γr r (put φ d (.v e (idivV op k m n))) Γ K) := by simp [idivC]
theorem e_ishift {op : BinOp} {x y : Operand} : vcOps P Γr (⟨d, none, .ishift op x y⟩ :: r) φ Γ K = ishiftC P Γr true d r φ Γ K op (val φ x) (val φ y) := rfl
theorem g_ishift {op : BinOp} {x y : Operand} : gC P Γr d r φ Γ K (some e) (.ishift op x y) = ishiftC P Γr e d r φ Γ K op (val φ x) (val φ y) := rfl
theorem ishiftC_eq {op : BinOp} {ex ey : Bool} {k ky : IntKind} {m n : Int} : ishiftC P Γr e d r φ Γ K op (ex, .int k m) (ey, .int ky n) =
    ((op = .shl ∨ op = .shr) ∧ (e = true → ex = true ∧ ey = true ∧ 0 ≤ n) ∧ vcOps P Γr r (put φ d (.v e (ishiftV op k m n))) Γ K) := rfl
theorem e_idx {sz : Nat} {x i : Operand} : vcOps P Γr (⟨d, none, .idx sz x i⟩ :: r) φ Γ K = idxC P Γr true d r φ Γ K sz (val φ x) (val φ i) := rfl
theorem g_idx {sz : Nat} {x i : Operand} : gC P Γr d r φ Γ K (some e) (.idx sz x i) = idxC P Γr e d r φ Γ K sz (val φ x) (val φ i) := rfl
theorem e_idxA {len sz : Nat} {x i : Operand} : vcOps P Γr (⟨d, none, .idxA len sz x i⟩ :: r) φ Γ K = idxAC P Γr true d r φ Γ K len sz (slotOf φ true x) (val φ x).1 (val φ i) := rfl
theorem g_idxA {len sz : Nat} {x i : Operand} : gC P Γr d r φ Γ K (some e) (.idxA len sz x i) = idxAC P Γr e d r φ Γ K len sz (slotOf φ e x) (val φ x).1 (val φ i) := rfl
theorem e_load {agg : Bool} {n : Nat} {x : Operand} : vcOps P Γr (⟨d, none, .load agg n x⟩ :: r) φ Γ K = loadC P Γr true d r φ Γ K agg n (slotOf φ true x) (val φ x).1 := rfl
theorem g_load {agg : Bool} {n : Nat} {x : Operand} : gC P Γr d r φ Γ K (some e) (.load agg n x) = loadC P Γr e d r φ Γ K agg n (slotOf φ e x) (val φ x).1 := rfl
theorem e_loadB {q : Option Nat} {agg : Bool} {n : Nat} {x : Operand} : vcOps P Γr (⟨d, none, .loadB q agg n x⟩ :: r) φ Γ K = (atB q (slotOf φ true x) ∧ loadC P Γr true d r φ Γ K agg n (slotOf φ true x) (val φ x).1) := rfl
theorem g_loadB {q : Option Nat} {agg : Bool} {n : Nat} {x : Operand} : gC P Γr d r φ Γ K (some e) (.loadB q agg n x) = (atB q (slotOf φ e x) ∧ loadC P Γr e d r φ Γ K agg n (slotOf φ e x) (val φ x).1) := rfl
theorem atB_ref {q : Option Nat} {e : Bool} {s b o : Nat} : atB q (.ref e s b o) = (q = some s) := rfl
theorem atB_v {q : Option Nat} {e : Bool} {x : Value} : atB q (.v e x) = (q = none) := rfl
theorem g_mkFunc {fn : FuncId} {caps : List Operand} : gC P Γr d r φ Γ K (some e) (.mkFunc fn caps) = (allOn φ e caps ∧ vcOps P Γr r (put φ d (.v e (.func (.func fn) #[] (vals φ caps).toArray))) Γ K) := rfl
theorem loadC_ref {agg e' on : Bool} {n s b o : Nat} : loadC P Γr e d r φ Γ K agg n (.ref e' s b o) on = loadB P Γr e d r φ Γ K agg n b o on (look φ s) := rfl
theorem loadC_ptr {agg e' on : Bool} {n b o : Nat} : loadC P Γr e d r φ Γ K agg n (.v e' (.pointer (some ⟨b, o, none⟩))) on = loadP P Γr e d r φ Γ K agg n b o on := rfl
theorem loadB_eq {agg on : Bool} {n b o : Nat} {T : TypeId} {cs : List Value} : loadB P Γr e d r φ Γ K agg n b o on (.box b T cs) =
    ((e = true → on = true) ∧ o + n ≤ cs.length ∧ (agg = false → n = 1) ∧ vcOps P Γr r (put φ d (.v e (mkv agg ((cs.drop o).take n)))) Γ K) := by simp [loadB]
theorem e_slc {sz : Nat} {x : Operand} {lo hi : Option Operand} : vcOps P Γr (⟨d, none, .slc sz x lo hi none⟩ :: r) φ Γ K = slcC P Γr true d r φ Γ K sz lo hi (val φ x) := rfl
theorem g_slc {sz : Nat} {x : Operand} {lo hi : Option Operand} : gC P Γr d r φ Γ K (some e) (.slc sz x lo hi none) = slcC P Γr e d r φ Γ K sz lo hi (val φ x) := rfl
theorem e_box {loc : Bool} {T : TypeId} {x : Operand} : vcOps P Γr (⟨d, none, .box loc T x⟩ :: r) φ Γ K = boxC P Γr d r φ Γ K loc T (val φ x) := by cases loc <;> rfl
theorem boxC_loc {T : TypeId} {vx : Bool × Value} : boxC P Γr d r φ Γ K true T vx = (vx.1 = true ∧ one' (cellsV vx.2) ∧ ∀ b, vcOps P Γr r (put φ d (.box b T (cellsV vx.2))) Γ K) := rfl
theorem boxC_esc {T : TypeId} {vx : Bool × Value} : boxC P Γr d r φ Γ K false T vx = (vx.1 = true ∧ one' (cellsV vx.2) ∧ ∀ b, vcOps P Γr r (put φ d (.v true (.pointer (some ⟨b, 0, none⟩)))) (one b (.cells (cellsV vx.2).toArray T) :: Γ) K) := rfl
theorem e_alloc {loc : Bool} {T : TypeId} {z : Value} : vcOps P Γr (⟨d, none, .alloc loc T z⟩ :: r) φ Γ K = allocC P Γr d r φ Γ K loc T z := by cases loc <;> rfl
theorem allocC_loc {T : TypeId} {z : Value} : allocC P Γr d r φ Γ K true T z = (∀ b, vcOps P Γr r (put φ d (.box b T (cellsV z))) Γ K) := rfl
theorem allocC_esc {T : TypeId} {z : Value} : allocC P Γr d r φ Γ K false T z = (∀ b, vcOps P Γr r (put φ d (.v true (.pointer (some ⟨b, 0, none⟩)))) (one b (.cells (cellsV z).toArray T) :: Γ) K) := rfl
theorem e_buildS {t : TypeId} {n : Nat} {z : List Value} {parts : List (Nat × Nat × Operand)} : vcOps P Γr (⟨d, none, .buildS t n z parts⟩ :: r) φ Γ K =
    (partOn φ true parts ∧ fits (partVals φ parts) ∧ ∀ b, vcOps P Γr r (put φ d (.v true (.slice (some ⟨b, 0, none⟩) n n))) (one b (.cells (fillL z (partVals φ parts)).toArray t) :: Γ) K) := rfl
theorem e_store {n : Nat} {x y : Operand} : vcOps P Γr (⟨d, none, .store n x y⟩ :: r) φ Γ K = storeC P Γr r φ Γ K n (slotOf φ true x) (val φ x).1 (val φ y) := rfl
theorem storeC_ref {n s b o : Nat} {e' : Bool} {y : Value} : storeC P Γr r φ Γ K n (.ref e' s b o) true (true, y) = ((cellsV y).length = n ∧ one' (cellsV y) ∧ storeB P Γr r φ Γ K n s b o y (look φ s)) := by simp [storeC]
theorem storeC_ptr {n b o : Nat} {e' : Bool} {y : Value} : storeC P Γr r φ Γ K n (.v e' (.pointer (some ⟨b, o, none⟩))) true (true, y) = ((cellsV y).length = n ∧ one' (cellsV y) ∧ storeP P Γr r φ Γ K n b o y) := by simp [storeC]
theorem storeB_eq {n s b o : Nat} {y : Value} {T : TypeId} {cs : List Value} : storeB P Γr r φ Γ K n s b o y (.box b T cs) = (o + n ≤ cs.length ∧ vcOps P Γr r (updBox φ s (setC cs o n y)) Γ K) := by simp [storeB]
theorem e_append {t el : TypeId} {sz bytes : Nat} {z : Value} {s x : Operand} : vcOps P Γr (⟨d, none, .append t el sz bytes z s x⟩ :: r) φ Γ K = appendC P Γr d r φ Γ K t el sz bytes z (val φ s) (val φ x) := rfl
theorem e_appz {t u el : TypeId} {sz bytes : Nat} {z : Value} {s x : Operand} : vcOps P Γr (⟨d, none, .appz t u el sz bytes z s x⟩ :: r) φ Γ K = appzC P Γr d r φ Γ K t u el sz bytes z (val φ s) (val φ x) := rfl
theorem e_mk {el : TypeId} {sz bytes : Nat} {z : Value} {x y : Operand} : vcOps P Γr (⟨d, none, .mk el sz bytes z x y⟩ :: r) φ Γ K = mkC P Γr d r φ Γ K el sz bytes z (val φ x) (val φ y) := rfl
theorem mkC_eq {el : TypeId} {sz bytes : Nat} {z : Value} {m p : Int} : mkC P Γr d r φ Γ K el sz bytes z (true, .int .i64 m) (true, .int .i64 p) =
    (0 ≤ m ∧ m ≤ p ∧ p * bytes ≤ 140737488355328 ∧ ∀ b, vcOps P Γr r (put φ d (.v true (.slice (some ⟨b, 0, none⟩) m.toNat p.toNat))) (one b (.cells (zerosL (cellsV z) p.toNat).toArray el) :: Γ) K) := rfl
theorem e_call {f : Operand} {args : List Operand} : vcOps P Γr (⟨d, none, .call f args⟩ :: r) φ Γ K = (allOn φ true args ∧ callC P Γr d r φ Γ K (val φ f) (vals φ args)) := rfl
theorem callC_eq {f : FuncId} {c1 c2 : Array Value} {args : List Value} : callC P Γr d r φ Γ K (true, .func (.func f) c1 c2) args = CallVC P Γr f (c1.toList ++ args ++ c2.toList) Γ (callK P Γr d r φ K) := rfl
theorem e_fn {c : Fk} {xs : List Operand} : vcOps P Γr (⟨d, none, .fn c xs⟩ :: r) φ Γ K = fnC P Γr true d r φ Γ K (allOn φ true xs) (fnV c (vals φ xs)) := rfl
theorem g_fn {c : Fk} {xs : List Operand} : gC P Γr d r φ Γ K (some e) (.fn c xs) = fnC P Γr e d r φ Γ K (allOn φ true xs) (fnV c (vals φ xs)) := rfl
theorem fnC_eq {on : Prop} {x : Value} : fnC P Γr true d r φ Γ K on (some x) = (on ∧ vcOps P Γr r (put φ d (.v true x)) Γ K) := by
  apply propext
  simp only [fnC, true_implies, Option.some.injEq]
  exact ⟨fun ⟨y, ⟨h1, h2⟩, h3⟩ => by subst h2; exact ⟨h1, h3⟩, fun ⟨h1, h2⟩ => ⟨x, ⟨h1, rfl⟩, h2⟩⟩
theorem fnV_min' {k : IntKind} {m n : Int} : fnV .min [.int k m, .int k n] = some (.int k (if n < m then n else m)) := by simp [fnV]
theorem fnV_max' {k : IntKind} {m n : Int} : fnV .max [.int k m, .int k n] = some (.int k (if m < n then n else m)) := by simp [fnV]
theorem fnV_rune' {k : IntKind} {n : Int} : fnV .rune [.int k n] = some (.string (Utf8.encode n)) := rfl
theorem e_q {c : Qk} {xs : List Operand} : vcOps P Γr (⟨d, none, .q c xs⟩ :: r) φ Γ K = qC P Γr true d r φ Γ K c (allOn φ true xs) (vals φ xs) := rfl
theorem g_q {c : Qk} {xs : List Operand} : gC P Γr d r φ Γ K (some e) (.q c xs) = qC P Γr e d r φ Γ K c (allOn φ true xs) (vals φ xs) := rfl
theorem e_a {c : Qk} {xs : List Operand} : vcOps P Γr (⟨d, none, .a c xs⟩ :: r) φ Γ K = (allOn φ true xs ∧ aC P Γr d r φ Γ K c (vals φ xs)) := rfl
theorem e_n {c : Qk} {xs : List Operand} : vcOps P Γr (⟨d, none, .n c xs⟩ :: r) φ Γ K = (allOn φ true xs ∧ nC P Γr d r φ Γ K c (vals φ xs)) := rfl
theorem g_call {f : Operand} {args : List Operand} : gC P Γr d r φ Γ K (some e) (.call f args) =
    ((e = true → vcOps P Γr (⟨d, none, (.call f args)⟩ :: r) φ Γ K) ∧ (e = false → ∃ x, vcOps P Γr r (put φ d (.v false x)) Γ K)) := rfl
theorem g_box {loc : Bool} {T : TypeId} {x : Operand} : gC P Γr d r φ Γ K (some e) (.box loc T x) =
    ((e = true → vcOps P Γr (⟨d, none, (.box loc T x)⟩ :: r) φ Γ K) ∧ (e = false → ∃ x, vcOps P Γr r (put φ d (.v false x)) Γ K)) := rfl
theorem g_alloc {loc : Bool} {T : TypeId} {z : Value} : gC P Γr d r φ Γ K (some e) (.alloc loc T z) =
    ((e = true → vcOps P Γr (⟨d, none, (.alloc loc T z)⟩ :: r) φ Γ K) ∧ (e = false → ∃ x, vcOps P Γr r (put φ d (.v false x)) Γ K)) := rfl
theorem g_buildS {t : TypeId} {n : Nat} {z : List Value} {parts : List (Nat × Nat × Operand)} : gC P Γr d r φ Γ K (some e) (.buildS t n z parts) =
    ((e = true → vcOps P Γr (⟨d, none, (.buildS t n z parts)⟩ :: r) φ Γ K) ∧ (e = false → ∃ x, vcOps P Γr r (put φ d (.v false x)) Γ K)) := rfl
theorem g_store {n : Nat} {x y : Operand} : gC P Γr d r φ Γ K (some e) (.store n x y) =
    ((e = true → vcOps P Γr (⟨d, none, (.store n x y)⟩ :: r) φ Γ K) ∧ (e = false → ∃ x, vcOps P Γr r (put φ d (.v false x)) Γ K)) := rfl
theorem g_append {t el : TypeId} {sz bytes : Nat} {z : Value} {s x : Operand} : gC P Γr d r φ Γ K (some e) (.append t el sz bytes z s x) =
    ((e = true → vcOps P Γr (⟨d, none, (.append t el sz bytes z s x)⟩ :: r) φ Γ K) ∧ (e = false → ∃ x, vcOps P Γr r (put φ d (.v false x)) Γ K)) := rfl
theorem g_mk {el : TypeId} {sz bytes : Nat} {z : Value} {x y : Operand} : gC P Γr d r φ Γ K (some e) (.mk el sz bytes z x y) =
    ((e = true → vcOps P Γr (⟨d, none, (.mk el sz bytes z x y)⟩ :: r) φ Γ K) ∧ (e = false → ∃ x, vcOps P Γr r (put φ d (.v false x)) Γ K)) := rfl
theorem g_a {c : Qk} {xs : List Operand} : gC P Γr d r φ Γ K (some e) (.a c xs) =
    ((e = true → vcOps P Γr (⟨d, none, (.a c xs)⟩ :: r) φ Γ K) ∧ (e = false → ∃ x, vcOps P Γr r (put φ d (.v false x)) Γ K)) := rfl
theorem g_n {c : Qk} {xs : List Operand} : gC P Γr d r φ Γ K (some e) (.n c xs) =
    ((e = true → vcOps P Γr (⟨d, none, (.n c xs)⟩ :: r) φ Γ K) ∧ (e = false → ∃ x, vcOps P Γr r (put φ d (.v false x)) Γ K)) := rfl
theorem g_dead  : gC P Γr d r φ Γ K (some e) .dead =
    ((e = true → vcOps P Γr (⟨d, none, .dead⟩ :: r) φ Γ K) ∧ (e = false → ∃ x, vcOps P Γr r (put φ d (.v false x)) Γ K)) := rfl
theorem e_dead : vcOps P Γr (⟨d, none, .dead⟩ :: r) φ Γ K = False := rfl
theorem e_callK {v : Value} : callK P Γr d r φ K v Γ = vcOps P Γr r (put φ d (.v true v)) Γ K := rfl
end

/-! operations whose order is drawn -/
def DK (P : Program) (Γr : Ctx) (r : List (Bool × SOper)) (K : Fr → Ctx → Prop) : Fr → Ctx → Prop := fun φ Γ => vcD P Γr r φ Γ K
def EK (P : Program) (Γr : Ctx) (r : List (Bool × SOper)) (K : Fr → Ctx → Prop) (Γ : Ctx) : Fr → Ctx → Prop := fun φ _ => vcD P Γr r φ Γ K
def drawnC (P : Program) (Γr : Ctx) (ops : List (Bool × SOper)) (L : List Nat) (φ : Fr) (Γ : Ctx) (Q : Post) : Prop :=
  ∃ Γm Γf, Ent Γ (Γm ++ Γf) ∧ vcD P (Γf ++ Γr) ops φ Γm (fun φ' Γ' => Q.nrm (proj φ' L) (Γ' ++ Γf))
def stB (φ : Fr) : Option Nat → Prop
  | some d => isBox (look φ d) = true
  | none => True
def FinB (L : List Nat) (K : Fr → Ctx → Prop) (Γf : Ctx) : Fr → Ctx → Prop := fun φ' Γ' => K (proj φ' L) (Γ' ++ Γf)
section
variable {P : Program} {Γr : Ctx} {L : List Nat} {φ : Fr} {Γ Γf : Ctx} {Q : Post} {ops r : List (Bool × SOper)} {K : Fr → Ctx → Prop} {o : SOper}
theorem e_drawn : vc P Γr (.drawn ops L) φ Γ Q = (noBoxes φ ops ∧ (bif anyEarly ops then drawnC P Γr ops L φ Γ Q else vcD P Γr ops φ Γ (Fin L Q.nrm))) := rfl
def TK (P : Program) (Γr : Ctx) (t : DT (Bool × SOper)) (K : Fr → Ctx → Prop) : Fr → Ctx → Prop := fun φ Γ => vcT P Γr t φ Γ K
def FinJ (L : List Nat) (Γf : Ctx) (J : Fr → Ctx → Prop) : Fr → Ctx → Prop := fun φ' Γ' => Up (Γ' ++ Γf) (J (proj φ' L))
def treeC (P : Program) (Γr : Ctx) (t : DT (Bool × SOper)) (L : List Nat) (φ : Fr) (Γ : Ctx) (Q : Post) : Prop := ∃ (Γm Γf : Ctx) (J : Fr → Ctx → Prop), Ent Γ (Γm ++ Γf) ∧ vcT P (Γf ++ Γr) t φ Γm (FinJ L Γf J) ∧ ∀ ψ Γ', J ψ Γ' → Q.nrm ψ Γ'
theorem e_tree {t : DT (Bool × SOper)} : vc P Γr (.tree t L) φ Γ Q = (noBoxesT φ t ∧ treeC P Γr t L φ Γ Q) := rfl
theorem e_finJ {J : Fr → Ctx → Prop} : FinJ L Γf J φ Γ = Up (Γ ++ Γf) (J (proj φ L)) := rfl
theorem e_tk {t : DT (Bool × SOper)} : TK P Γr t K φ Γ = vcT P Γr t φ Γ K := rfl
theorem e_tfin : vcT P Γr .fin φ Γ K = K φ Γ := rfl
theorem e_tno : vcT P Γr .no φ Γ K = True := rfl
theorem e_nbt_q {e : Bool} {t : DT (Bool × SOper)} {g : Option (Nat × Bool)} {op : SOp} {d : Nat} : noBoxesT φ (.q (e, ⟨some d, g, op⟩) t) = (isBox (look φ d) = false ∧ noBoxesT φ t) := rfl
theorem e_nbt_qn {e : Bool} {t : DT (Bool × SOper)} {g : Option (Nat × Bool)} {op : SOp} : noBoxesT φ (.q (e, ⟨none, g, op⟩) t) = noBoxesT φ t := by simp [noBoxesT]
theorem e_nbt_a {e : Bool} {t u : DT (Bool × SOper)} {g : Option (Nat × Bool)} {op : SOp} {d : Nat} : noBoxesT φ (.alt (e, ⟨some d, g, op⟩) t u) = (isBox (look φ d) = false ∧ noBoxesT φ t) := rfl
theorem e_nbt_an {e : Bool} {t u : DT (Bool × SOper)} {g : Option (Nat × Bool)} {op : SOp} : noBoxesT φ (.alt (e, ⟨none, g, op⟩) t u) = noBoxesT φ t := by simp [noBoxesT]
theorem e_nbt_fin : noBoxesT φ .fin = True := rfl
theorem e_drawnB : vc P Γr (.drawnB ops L) φ Γ Q = (noBoxes φ ops ∧ boxesB φ ops ∧ vcD P Γr ops φ Γ (Fin L Q.nrm)) := rfl
theorem e_bxb_nil : boxesB φ [] = True := rfl
theorem e_bxb {e : Bool} : boxesB φ ((e, o) :: r) = (stB φ (boxSt o.op) ∧ boxesB φ r) := by
  show (_ ∧ _) = _
  unfold stB
  rfl
theorem e_stB_none : stB φ none = True := rfl
theorem e_stB_some {t : Nat} : stB φ (some t) = (isBox (look φ t) = true) := rfl
theorem boxSt_store {n t : Nat} {y : Operand} : boxSt (.store n (.tmp t) y) = some t := rfl
theorem bs_mv {x : Operand} : boxSt (.mv x) = none := rfl
theorem bs_pick {c a b : Operand} : boxSt (.pick c a b) = none := rfl
theorem bs_ibin {op : BinOp} {x y : Operand} : boxSt (.ibin op x y) = none := rfl
theorem bs_idiv {op : BinOp} {x y : Operand} : boxSt (.idiv op x y) = none := rfl
theorem bs_ishift {op : BinOp} {x y : Operand} : boxSt (.ishift op x y) = none := rfl
theorem bs_sbin {op : BinOp} {x y : Operand} : boxSt (.sbin op x y) = none := rfl
theorem bs_beq {neg : Bool} {x y : Operand} : boxSt (.beq neg x y) = none := rfl
theorem bs_nilq {kd : Nat} {neg : Bool} {x y : Operand} : boxSt (.nilq kd neg x y) = none := rfl
theorem bs_un {op : UnOp} {x : Operand} : boxSt (.un op x) = none := rfl
theorem bs_conv {k : IntKind} {x : Operand} : boxSt (.conv k x) = none := rfl
theorem bs_box {loc : Bool} {T : TypeId} {x : Operand} : boxSt (.box loc T x) = none := rfl
theorem bs_alloc {loc : Bool} {T : TypeId} {z : Value} : boxSt (.alloc loc T z) = none := rfl
theorem bs_build {t : TypeId} {z : List Value} {parts : List (Nat × Nat × Operand)} : boxSt (.build t z parts) = none := rfl
theorem bs_buildS {e : TypeId} {len : Nat} {z : List Value} {parts : List (Nat × Nat × Operand)} : boxSt (.buildS e len z parts) = none := rfl
theorem bs_load {agg : Bool} {n : Nat} {x : Operand} : boxSt (.load agg n x) = none := rfl
theorem bs_fld {off : Nat} {x : Operand} : boxSt (.fld off x) = none := rfl
theorem bs_nilCheck {x : Operand} : boxSt (.nilCheck x) = none := rfl
theorem bs_idx {sz : Nat} {x i : Operand} : boxSt (.idx sz x i) = none := rfl
theorem bs_idxA {len sz : Nat} {x i : Operand} : boxSt (.idxA len sz x i) = none := rfl
theorem bs_field {agg : Bool} {off n : Nat} {x : Operand} : boxSt (.field agg off n x) = none := rfl
theorem bs_slc {sz : Nat} {x : Operand} {lo hi mx : Option Operand} : boxSt (.slc sz x lo hi mx) = none := rfl
theorem bs_len {str : Bool} {x : Operand} : boxSt (.len str x) = none := rfl
theorem bs_append {t e : TypeId} {sz bytes : Nat} {z : Value} {s x : Operand} : boxSt (.append t e sz bytes z s x) = none := rfl
theorem bs_appz {t u e : TypeId} {sz bytes : Nat} {z : Value} {s x : Operand} : boxSt (.appz t u e sz bytes z s x) = none := rfl
theorem bs_mk {e : TypeId} {sz bytes : Nat} {z : Value} {n c : Operand} : boxSt (.mk e sz bytes z n c) = none := rfl
theorem bs_call {f : Operand} {args : List Operand} : boxSt (.call f args) = none := rfl
theorem bs_extract {i : Nat} {x : Operand} : boxSt (.extract i x) = none := rfl
theorem bs_mkFunc {fn : FuncId} {caps : List Operand} : boxSt (.mkFunc fn caps) = none := rfl
theorem bs_fn {c : Fk} {xs : List Operand} : boxSt (.fn c xs) = none := rfl
theorem bs_q {c : Qk} {xs : List Operand} : boxSt (.q c xs) = none := rfl
theorem bs_a {c : Qk} {xs : List Operand} : boxSt (.a c xs) = none := rfl
theorem bs_n {c : Qk} {xs : List Operand} : boxSt (.n c xs) = none := rfl
theorem bs_loadB {q : Option Nat} {agg : Bool} {n : Nat} {x : Operand} : boxSt (.loadB q agg n x) = none := rfl
theorem bs_dead  : boxSt (.dead ) = none := rfl
theorem isBox_box {b : Nat} {T : TypeId} {cs : List Value} : isBox (.box b T cs) = true := rfl
theorem e_early_nil : anyEarly [] = false := rfl
theorem e_early_t : anyEarly ((true, o) :: r) = true := rfl
theorem e_early_f : anyEarly ((false, o) :: r) = anyEarly r := rfl
theorem e_nob_nil : noBoxes φ [] = True := rfl
theorem e_nob_none {e : Bool} {g : Option (Nat × Bool)} {op : SOp} : noBoxes φ ((e, ⟨none, g, op⟩) :: r) = noBoxes φ r := by simp [noBoxes]
theorem e_nob_some {e : Bool} {g : Option (Nat × Bool)} {op : SOp} {d : Nat} : noBoxes φ ((e, ⟨some d, g, op⟩) :: r) = (isBox (look φ d) = false ∧ noBoxes φ r) := rfl
theorem isBox_dead : isBox .dead = false := rfl
theorem isBox_v {e : Bool} {x : Value} : isBox (.v e x) = false := rfl
theorem isBox_ref {e : Bool} {a b c : Nat} : isBox (.ref e a b c) = false := rfl
theorem e_dnil : vcD P Γr [] φ Γ K = K φ Γ := rfl
theorem e_dk : DK P Γr r K φ Γ = vcD P Γr r φ Γ K := rfl
theorem e_ek {Γ' : Ctx} : EK P Γr r K Γ φ Γ' = vcD P Γr r φ Γ K := rfl
theorem e_finB {Γ' : Ctx} : FinB L K Γf φ Γ' = K (proj φ L) (Γ' ++ Γf) := rfl
theorem vcOps_vc1 {k : Fr → Ctx → Prop} : vc1 P Γr false o φ Γ k = vcOps P Γr [o] φ Γ k := by
  apply propext
  refine ⟨vcOps_of_vc1, fun h => ?_⟩
  obtain ⟨d, g, op⟩ := o
  unfold vc1
  cases g with
  | none =>
    simp only [vcOps] at h
    simp only [gd]
    cases hp : isPure op with
    | true => simpa only [hp, cond_true] using h
    | false =>
      cases ha : isAsk op with
      | true => simp only [hp, ha, cond_true, cond_false] at h ⊢; exact h
      | false => simp only [hp, ha, cond_false] at h ⊢; exact ⟨fun _ => h, fun q => by cases q⟩
  | some g =>
    simp only [vcOps] at h
    split at h
    · rename_i e he
      simp only [he]
      exact h
    · exact h.elim
theorem e_dcons : vcD P Γr ((false, o) :: r) φ Γ K = vcOps P Γr [o] φ Γ (DK P Γr r K) := vcOps_vc1
theorem e_tq {t : DT (Bool × SOper)} : vcT P Γr (.q (false, o) t) φ Γ K = vcOps P Γr [o] φ Γ (TK P Γr t K) := vcOps_vc1
def EKT (P : Program) (Γr : Ctx) (t : DT (Bool × SOper)) (K : Fr → Ctx → Prop) (Γ : Ctx) : Fr → Ctx → Prop := fun φ _ => vcT P Γr t φ Γ K
theorem e_ekt {t : DT (Bool × SOper)} {Γ' : Ctx} : EKT P Γr t K Γ φ Γ' = vcT P Γr t φ Γ K := rfl
theorem e_tearly {t : DT (Bool × SOper)} {d : Option Nat} {g : Option (Nat × Bool)} {agg : Bool} {n : Nat} {x : Operand} : vcT P Γr (.q (true, ⟨d, g, .load agg n x⟩) t) φ Γ K = vcOps P Γr [⟨d, g, .load agg n x⟩] φ [] (EKT P Γr t K Γ) := by
  show vc1 P Γr true _ φ Γ _ = _
  rw [← vcOps_vc1]
  rfl
theorem e_talt {t u : DT (Bool × SOper)} : vcT P Γr (.alt (false, o) t u) φ Γ K = (vcOps P Γr [o] φ Γ (TK P Γr t K) ∧ vcT P Γr u φ Γ K) := by
  show (vc1 P Γr false o φ Γ _ ∧ _) = _
  rw [vcOps_vc1]
  rfl
theorem e_dearly {d : Option Nat} {g : Option (Nat × Bool)} {agg : Bool} {n : Nat} {x : Operand} : vcD P Γr ((true, ⟨d, g, .load agg n x⟩) :: r) φ Γ K = vcOps P Γr [⟨d, g, .load agg n x⟩] φ [] (EK P Γr r K Γ) := by
  show vc1 P Γr true _ φ Γ _ = _
  rw [← vcOps_vc1]
  rfl
end

/-! frames -/
theorem look_nil (t : Nat) : look [] t = .dead := rfl
theorem look_c (k : Nat) (x : Sl) (r : Fr) (t : Nat) : look ((k, x) :: r) t = bif k == t then x else look r t := rfl
theorem proj_nil (φ : Fr) : proj φ [] = [] := rfl
theorem proj_c (φ : Fr) (t : Nat) (L : List Nat) : proj φ (t :: L) = (t, look φ t) :: proj φ L := rfl
theorem looks_nil (φ : Fr) : looks φ [] = [] := rfl
theorem looks_c (φ : Fr) (t : Nat) (L : List Nat) : looks φ (t :: L) = look φ t :: looks φ L := rfl
theorem zip_nil (r : List Sl) : zipS [] r = [] := rfl
theorem zip_c (t : Nat) (L : List Nat) (x : Sl) (r : List Sl) : zipS (t :: L) (x :: r) = (t, x) :: zipS L r := rfl
theorem val_tmp (φ : Fr) (t : Nat) : val φ (.tmp t) = (look φ t).val := rfl
theorem val_const (φ : Fr) (x : Value) : val φ (.const x) = (true, x) := rfl
theorem val_func (φ : Fr) (f : FuncId) : val φ (.func f) = (true, .func (.func f) #[] #[]) := rfl
theorem slv_v (e : Bool) (x : Value) : (Sl.v e x).val = (e, x) := rfl
theorem slv_box (b : Nat) (T : TypeId) (cs : List Value) : (Sl.box b T cs).val = (true, .pointer (some ⟨b, 0, none⟩)) := rfl
theorem slv_ref (e : Bool) (s b o : Nat) : (Sl.ref e s b o).val = (e, .pointer (some ⟨b, o, none⟩)) := rfl
def slotL (t : Nat) (e : Bool) : Sl → Sl
  | .box b _ _ => .ref e t b 0
  | .ref _ s b off => .ref e s b off
  | x => .v e x.val.2
theorem slot_tmp (φ : Fr) (e : Bool) (t : Nat) : slotOf φ e (.tmp t) = slotL t e (look φ t) := by
  simp only [slotOf, slotL]
  cases look φ t <;> rfl
theorem slot_const (φ : Fr) (e : Bool) (x : Value) : slotOf φ e (.const x) = .v e x := rfl
theorem slot_func (φ : Fr) (e : Bool) (f : FuncId) : slotOf φ e (.func f) = .v e (.func (.func f) #[] #[]) := rfl
theorem slotL_v (t : Nat) (e e' : Bool) (x : Value) : slotL t e (.v e' x) = .v e x := rfl
theorem slotL_box (t : Nat) (e : Bool) (b : Nat) (T : TypeId) (cs : List Value) : slotL t e (.box b T cs) = .ref e t b 0 := rfl
theorem slotL_ref (t : Nat) (e e' : Bool) (s b o : Nat) : slotL t e (.ref e' s b o) = .ref e s b o := rfl
theorem put_some (φ : Fr) (t : Nat) (x : Sl) : put φ (some t) x = (t, x) :: φ := rfl
theorem put_none (φ : Fr) (x : Sl) : put φ none x = φ := rfl
def boxSet : Sl → List Value → Sl
  | .box b T _, cs => .box b T cs
  | x, _ => x
theorem updBox_c (k : Nat) (x : Sl) (r : Fr) (t : Nat) (cs : List Value) : updBox ((k, x) :: r) t cs = bif k == t then (k, boxSet x cs) :: r else (k, x) :: updBox r t cs := by
  simp only [updBox]
  cases x <;> rfl
theorem boxSet_box (b : Nat) (T : TypeId) (cs cs' : List Value) : boxSet (.box b T cs) cs' = .box b T cs' := rfl
theorem gd_eq (φ : Fr) (t : Nat) (want : Bool) : gd φ (some (t, want)) = (match look φ t with | .v ge (.bool b) => some (ge && (b == want)) | _ => none) := rfl
theorem slotVals_nil (φ : Fr) : slotVals φ [] = [] := rfl
theorem slotVals_c (φ : Fr) (t : Nat) (r : List (Nat × Option (Bool × Nat))) : slotVals φ ((t, none) :: r) = (look φ t).val.2 :: slotVals φ r := rfl
theorem slotVals_b (φ : Fr) (t : Nat) (agg : Bool) (n : Nat) (r : List (Nat × Option (Bool × Nat))) : slotVals φ ((t, some (agg, n)) :: r) = boxV agg n (look φ t) :: slotVals φ r := rfl
theorem boxV_box (agg : Bool) (n b : Nat) (T : TypeId) (cs : List Value) : boxV agg n (.box b T cs) = mkv agg (cs.take n) := rfl
theorem boxOn_box (agg : Bool) (n b : Nat) (T : TypeId) (cs : List Value) : boxOn agg n (.box b T cs) = (n ≤ cs.length ∧ (agg = false → n = 1)) := rfl
theorem slotsOn_nil (φ : Fr) : slotsOn φ [] = True := rfl
theorem slotsOn_c (φ : Fr) (t : Nat) (r : List (Nat × Option (Bool × Nat))) : slotsOn φ ((t, none) :: r) = ((look φ t).val.1 = true ∧ slotsOn φ r) := rfl
theorem slotsOn_b (φ : Fr) (t : Nat) (agg : Bool) (n : Nat) (r : List (Nat × Option (Bool × Nat))) : slotsOn φ ((t, some (agg, n)) :: r) = (boxOn agg n (look φ t) ∧ slotsOn φ r) := rfl
theorem resV_one (x : Value) : resV [x] = x := rfl
theorem resV_two (x y : Value) (r : List Value) : resV (x :: y :: r) = .tuple (x :: y :: r).toArray := rfl
theorem vals_nil (φ : Fr) : vals φ [] = [] := rfl
theorem vals_c (φ : Fr) (x : Operand) (r : List Operand) : vals φ (x :: r) = (val φ x).2 :: vals φ r := rfl
theorem allOn_nil (φ : Fr) (e : Bool) : allOn φ e [] = True := rfl
theorem allOn_c (φ : Fr) (e : Bool) (x : Operand) (r : List Operand) : allOn φ e (x :: r) = ((e = true → (val φ x).1 = true) ∧ allOn φ e r) := rfl
theorem partOn_nil (φ : Fr) (e : Bool) : partOn φ e [] = True := rfl
theorem partOn_c (φ : Fr) (e : Bool) (o n : Nat) (x : Operand) (r : List (Nat × Nat × Operand)) : partOn φ e ((o, n, x) :: r) = ((e = true → (val φ x).1 = true) ∧ partOn φ e r) := rfl
theorem partVals_nil (φ : Fr) : partVals φ [] = [] := rfl
theorem partVals_c (φ : Fr) (o n : Nat) (x : Operand) (r : List (Nat × Nat × Operand)) : partVals φ ((o, n, x) :: r) = (o, n, (val φ x).2) :: partVals φ r := rfl
theorem fits_nil : fits [] = True := rfl
theorem fits_c (o n : Nat) (x : Value) (r : List (Nat × Nat × Value)) : fits ((o, n, x) :: r) = ((cellsV x).length = n ∧ fits r) := rfl
theorem fillL_nil (z : List Value) : fillL z [] = z := rfl
theorem fillL_c (z : List Value) (o n : Nat) (x : Value) (r : List (Nat × Nat × Value)) : fillL z ((o, n, x) :: r) = fillL (z.take o ++ cellsV x ++ z.drop (o + n)) r := rfl
theorem mkv_one (x : Value) (r : List Value) : mkv false (x :: r) = x := rfl
theorem mkv_agg (l : List Value) : mkv true l = .agg l.toArray := rfl
theorem cellsV_agg (l : List Value) : cellsV (.agg l.toArray) = l := rfl
theorem cellsV_int (k : IntKind) (x : Int) : cellsV (.int k x) = [.int k x] := rfl
theorem cellsV_bool (x : Bool) : cellsV (.bool x) = [.bool x] := rfl
theorem cellsV_slice (A : Option Addr) (n c : Nat) : cellsV (.slice A n c) = [.slice A n c] := rfl
theorem cellsV_string (s : ByteArray) : cellsV (.string s) = [.string s] := rfl
theorem cellsV_pointer (a : Option Addr) : cellsV (.pointer a) = [.pointer a] := rfl
theorem cellsV_func (f : Fn) (a b : Array Value) : cellsV (.func f a b) = [.func f a b] := rfl
theorem cellsV_nilf : cellsV .nilFunc = [.nilFunc] := rfl
theorem cellsV_map (a : Option Nat) : cellsV (.map a) = [.map a] := rfl
theorem one'_nil : one' [] = True := by simp [one']
theorem one'_c (x : Value) (r : List Value) : one' (x :: r) = (x.oneCell' = true ∧ one' r) := by simp [one']
theorem oc_int (k : IntKind) (x : Int) : (Value.int k x).oneCell' = true := rfl
theorem oc_bool (x : Bool) : (Value.bool x).oneCell' = true := rfl
theorem oc_slice (A : Option Addr) (n c : Nat) : (Value.slice A n c).oneCell' = true := rfl
theorem oc_string (s : ByteArray) : (Value.string s).oneCell' = true := rfl
theorem oc_pointer (a : Option Addr) : (Value.pointer a).oneCell' = true := rfl
theorem oc_func (f : Fn) (a b : Array Value) : (Value.func f a b).oneCell' = true := rfl
theorem oc_nilf : (Value.nilFunc).oneCell' = true := rfl
theorem oc_map (a : Option Nat) : (Value.map a).oneCell' = true := rfl
theorem setC_eq (cs : List Value) (o n : Nat) (x : Value) : setC cs o n x = cs.take o ++ cellsV x ++ cs.drop (o + n) := rfl
theorem iv_add (k : IntKind) (a b : Int) : ibinV .add k a b = .int k (k.wrap (a + b)) := rfl
theorem iv_sub (k : IntKind) (a b : Int) : ibinV .sub k a b = .int k (k.wrap (a - b)) := rfl
theorem iv_mul (k : IntKind) (a b : Int) : ibinV .mul k a b = .int k (k.wrap (a * b)) := rfl
theorem iv_eql (k : IntKind) (a b : Int) : ibinV .eql k a b = .bool (decide (a = b)) := rfl
theorem iv_neq (k : IntKind) (a b : Int) : ibinV .neq k a b = .bool (!decide (a = b)) := rfl
theorem iv_lss (k : IntKind) (a b : Int) : ibinV .lss k a b = .bool (decide (a < b)) := rfl
theorem iv_leq (k : IntKind) (a b : Int) : ibinV .leq k a b = .bool (decide (a ≤ b)) := rfl
theorem iv_gtr (k : IntKind) (a b : Int) : ibinV .gtr k a b = .bool (decide (b < a)) := rfl
theorem iv_geq (k : IntKind) (a b : Int) : ibinV .geq k a b = .bool (decide (b ≤ a)) := rfl
theorem iok_add : ibinOk .add = true := rfl
theorem iok_sub : ibinOk .sub = true := rfl
theorem iok_mul : ibinOk .mul = true := rfl
theorem iok_eql : ibinOk .eql = true := rfl
theorem iok_neq : ibinOk .neq = true := rfl
theorem iok_lss : ibinOk .lss = true := rfl
theorem iok_leq : ibinOk .leq = true := rfl
theorem iok_gtr : ibinOk .gtr = true := rfl
theorem iok_geq : ibinOk .geq = true := rfl
theorem pickV_bool (c x y : Bool) : pickV c (.bool x) (.bool y) = .bool (bif c then x else y) := rfl
theorem args0_nil (i : Nat) : args0 i [] = [] := rfl
theorem args0_c (i : Nat) (x : Value) (r : List Value) : args0 i (x :: r) = (i, .v true x) :: args0 (i + 1) r := rfl
theorem bnd_none (φ : Fr) (l d : Nat) : bnd φ none l d = (l = d) := rfl
theorem bnd_some (φ : Fr) (y : Operand) (l d : Nat) : bnd φ (some y) l d = ((val φ y).1 = true ∧ ∃ ki, (val φ y).2 = .int ki (l : Nat)) := rfl
theorem imp_bt (b : Bool) : (b = true → (b == true) = true) = True := by simp
theorem imp_bf (b : Bool) : (b = false → (b == false) = true) = True := by simp
theorem imp_ebt (e b : Bool) : (e = true → b = true → (e && (b == true)) = true) = True := by cases e <;> cases b <;> simp
theorem imp_ebf (e b : Bool) : (e = true → b = false → (e && (b == false)) = true) = True := by cases e <;> cases b <;> simp
theorem imp_eb1 (e b : Bool) : ((e && b) = true → e = true) = True := by cases e <;> simp
theorem imp_np (p : Prop) [Decidable p] : (¬ p → (decide p == false) = true) = True := by simp
theorem imp_pp (p : Prop) [Decidable p] : (p → (decide p == true) = true) = True := by simp
theorem beq_tt : (true == true) = true := rfl
theorem beq_tf : (true == false) = false := rfl
theorem beq_ft : (false == true) = false := rfl
theorem beq_ff : (false == false) = true := rfl
theorem cond_or (b c : Bool) : (bif b then true else c) = (b || c) := by cases b <;> rfl
theorem cond_and (b c : Bool) : (bif b then c else false) = (b && c) := by cases b <;> rfl
def RoundK (M N : List Nat) (q : List Sl) (I : Nat → List Sl → Ctx → Prop) (n : Nat) : Fr → Ctx → Prop := fun φ Γ => looks φ N = q ∧ ∃ n', n' < n ∧ Up Γ (I n' (looks φ M))
def JoinK (M N : List Nat) (q : List Sl) (J : List Sl → Ctx → Prop) : Fr → Ctx → Prop := fun φ Γ => looks φ N = q ∧ Up Γ (J (looks φ M))
theorem e_round (M N : List Nat) (q : List Sl) (I : Nat → List Sl → Ctx → Prop) (n : Nat) (φ : Fr) (Γ : Ctx) : RoundK M N q I n φ Γ = (looks φ N = q ∧ ∃ n', n' < n ∧ Up Γ (I n' (looks φ M))) := rfl
theorem e_meet (M N : List Nat) (q : List Sl) (J : List Sl → Ctx → Prop) (φ : Fr) (Γ : Ctx) : JoinK M N q J φ Γ = (looks φ N = q ∧ Up Γ (J (looks φ M))) := rfl
/- What is used of the symbolic walk: contracts met at calls, data that read as lists and structs; no condition. -/
theorem Ent.refl (Γ : Ctx) : Ent Γ Γ := ⟨fun h hh k o hk => ⟨h, hh, hk⟩, id⟩
theorem Up.here {Γ : Ctx} {Φ : Ctx → Prop} (h : Φ Γ) : Up Γ Φ := fun _ => ⟨Γ, Ent.refl Γ, h⟩
theorem Up.to {Γ : Ctx} {Φ : Ctx → Prop} (Γ' : Ctx) (he : Ent Γ Γ') (h : Φ Γ') : Up Γ Φ := fun _ => ⟨Γ', he, h⟩
theorem Ent.sub {Γ Γ' : Ctx} (h : Γ'.Sublist Γ) : Ent Γ Γ' := ⟨fun g hg k o hk => ⟨g, h.subset hg, hk⟩, fun ha => ha.sublist h⟩
theorem Ent.nil (Γ : Ctx) : Ent Γ [] := Ent.sub (List.nil_sublist Γ)
theorem Ent.trans {Γ Γ' Γ'' : Ctx} (h : Ent Γ Γ') (h' : Ent Γ' Γ'') : Ent Γ Γ'' :=
  ⟨fun g hg k o hk => let ⟨g', hg', hk'⟩ := h'.cov g hg k o hk; h.cov g' hg' k o hk', fun ha => h'.apart (h.apart ha)⟩
theorem Ent.perm {Γ Γ' : Ctx} (h : Γ.Perm Γ') : Ent Γ Γ' := ⟨fun g hg k o hk => ⟨g, h.mem_iff.2 hg, hk⟩, perm_apart h⟩
theorem uni_some {h g : PH} {k : Nat} {o : Obj} (hk : uni h g k = some o) : h k = some o ∨ g k = some o := by
  unfold uni at hk
  split at hk
  · rename_i p hp; left; rw [hp]; exact hk
  · exact .inr hk
theorem uni_disj {h g x : PH} (h1 : Disj h x) (h2 : Disj g x) : Disj (uni h g) x := by
  intro k
  unfold uni
  rcases h1 k with q | q
  · rcases h2 k with q' | q'
    · left; rw [q]; exact q'
    · exact .inr q'
  · exact .inr q
/-- two heaps are one -/
theorem Ent.uni (h g : PH) (Γ : Ctx) : Ent (h :: g :: Γ) (V.uni h g :: Γ) := by
  refine ⟨fun x hx k o hk => ?_, fun ha => ?_⟩
  · rcases List.mem_cons.1 hx with rfl | hx
    · rcases uni_some hk with q | q
      · exact ⟨h, by simp, q⟩
      · exact ⟨g, by simp, q⟩
    · exact ⟨x, by simp [hx], hk⟩
  · obtain ⟨h1, h2⟩ := List.pairwise_cons.1 ha
    obtain ⟨h3, h4⟩ := List.pairwise_cons.1 h2
    exact List.pairwise_cons.2 ⟨fun x hx => uni_disj (h1 x (by simp [hx])) (h3 x hx), h4⟩
theorem Ent.cons {Γ Γ' : Ctx} (h : PH) (he : Ent Γ Γ') : Ent (h :: Γ) (h :: Γ') := by
  refine ⟨fun x hx k o hk => ?_, fun ha => ?_⟩
  · rcases List.mem_cons.1 hx with rfl | hx
    · exact ⟨x, by simp, hk⟩
    · obtain ⟨g, hg, hgk⟩ := he.cov x hx k o hk; exact ⟨g, by simp [hg], hgk⟩
  · obtain ⟨h1, h2⟩ := List.pairwise_cons.1 ha
    refine List.pairwise_cons.2 ⟨fun x hx k => ?_, he.apart h2⟩
    cases hxk : x k with
    | none => exact .inr rfl
    | some o =>
      obtain ⟨g, hg, hgk⟩ := he.cov x hx k o hxk
      rcases h1 g hg k with q | q
      · exact .inl q
      · rw [hgk] at q; cases q

/-! what memory holds -/
abbrev Mem := Nat → Obj → Prop
def lk (Γ : Ctx) : Mem := fun b o => ∃ h ∈ Γ, h b = some o
def Mem.le (L L' : Mem) : Prop := ∀ b o, L b o → L' b o
theorem Mem.le.refl (L : Mem) : Mem.le L L := fun _ _ h => h
theorem Mem.le.trans {L L' L'' : Mem} (h : Mem.le L L') (h' : Mem.le L' L'') : Mem.le L L'' := fun b o q => h' b o (h b o q)
theorem lk_sub {Γ Γ' : Ctx} (h : ∀ g ∈ Γ, g ∈ Γ') : Mem.le (lk Γ) (lk Γ') := fun b o ⟨g, hg, q⟩ => ⟨g, h g hg, q⟩
theorem lk_one {g : PH} {b : Nat} {o : Obj} : lk [g] b o ↔ g b = some o := by simp [lk]
def unis : Ctx → PH
  | [] => emp
  | [g] => g
  | g :: r => uni g (unis r)
theorem unis_some : ∀ {Γ : Ctx} {k : Nat} {o : Obj}, unis Γ k = some o → ∃ g ∈ Γ, g k = some o
  | [], k, o, h => by simp [unis, emp] at h
  | [g], k, o, h => ⟨g, by simp, h⟩
  | g :: g' :: r, k, o, h => by
    rcases uni_some (h := g) (g := unis (g' :: r)) h with q | q
    · exact ⟨g, by simp, q⟩
    · obtain ⟨x, hx, q'⟩ := unis_some q
      exact ⟨x, List.mem_cons_of_mem _ hx, q'⟩
theorem lk_unis : ∀ {Γ : Ctx}, Γ.Pairwise Disj → Mem.le (lk Γ) (lk [unis Γ])
  | [], _, b, o, h => by obtain ⟨g, hg, _⟩ := h; cases hg
  | [g], _, b, o, h => h
  | g :: g' :: r, ha, b, o, h => by
    obtain ⟨h1, h2⟩ := List.pairwise_cons.1 ha
    obtain ⟨x, hx, q⟩ := h
    refine lk_one.2 ?_
    show uni g (unis (g' :: r)) b = some o
    unfold uni
    rcases List.mem_cons.1 hx with rfl | hx
    · rw [q]
    · have := h1 x hx b
      rcases this with q' | q'
      · rw [q']
        exact lk_one.1 (lk_unis h2 b o ⟨x, hx, q⟩)
      · rw [q] at q'; cases q'
def sel (Γ : Ctx) (is : List Nat) : Ctx := is.filterMap (fun i => Γ[i]?)
theorem Ent.sel (Γ : Ctx) (is : List Nat) (hn : is.Nodup) : Ent Γ (sel Γ is) := by
  refine ⟨fun g hg k o hk => ?_, fun ha => ?_⟩
  · obtain ⟨i, hi, q⟩ := List.mem_filterMap.1 hg
    exact ⟨g, List.mem_of_getElem? q, hk⟩
  · induction is with
    | nil => exact List.Pairwise.nil
    | cons i is ih =>
      obtain ⟨h1, h2⟩ := List.nodup_cons.1 hn
      have ih := ih h2
      unfold V.sel
      cases hi : Γ[i]? with
      | none => rw [List.filterMap_cons_none hi]; exact ih
      | some g =>
        rw [List.filterMap_cons_some hi]
        refine List.pairwise_cons.2 ⟨fun x hx => ?_, ih⟩
        obtain ⟨j, hj, q⟩ := List.mem_filterMap.1 hx
        have hij : i ≠ j := fun e => by subst e; exact h1 hj
        obtain ⟨li, ei⟩ := List.getElem?_eq_some_iff.1 hi
        obtain ⟨lj, ej⟩ := List.getElem?_eq_some_iff.1 q
        rw [List.pairwise_iff_getElem] at ha
        rcases Nat.lt_or_gt_of_ne hij with r | r
        · have := ha i j li lj r
          rw [ei, ej] at this
          exact this
        · have := ha j i lj li r
          rw [ei, ej] at this
          exact this.symm
theorem disj_unis {x : PH} : ∀ {Γ : Ctx}, (∀ g ∈ Γ, Disj x g) → Disj x (unis Γ)
  | [], _ => fun k => .inr rfl
  | [g], h => h g (by simp)
  | g :: g' :: r, h => by
    have h1 := h g (by simp)
    have h2 := disj_unis (Γ := g' :: r) (fun y hy => h y (List.mem_cons_of_mem _ hy))
    exact (uni_disj h1.symm h2.symm).symm
theorem unis_pairwise : ∀ {Γs : List Ctx}, Γs.flatten.Pairwise Disj → (Γs.map unis).Pairwise Disj
  | [], _ => List.Pairwise.nil
  | Γ :: Γs, h => by
    simp only [List.flatten_cons] at h
    obtain ⟨h1, h2, h3⟩ := List.pairwise_append.1 h
    refine List.pairwise_cons.2 ⟨fun x hx => ?_, unis_pairwise h2⟩
    obtain ⟨Δ, hΔ, rfl⟩ := List.mem_map.1 hx
    exact disj_unis fun y hy => (disj_unis fun g hg => (h3 g hg y (List.mem_flatten.2 ⟨Δ, hΔ, hy⟩)).symm).symm
/-- heaps are put together, group by group -/
theorem Up.sel {Γ : Ctx} {Φ : Ctx → Prop} (iss : List (List Nat)) (hn : iss.flatten.Nodup) (h : Γ.Pairwise Disj → (∀ is ∈ iss, Mem.le (lk (V.sel Γ is)) (lk [unis (V.sel Γ is)])) → Φ (iss.map fun is => unis (V.sel Γ is))) : Up Γ Φ := by
  intro ha
  have hflat : (iss.map (V.sel Γ)).flatten = V.sel Γ iss.flatten := by
    clear hn h
    induction iss with
    | nil => rfl
    | cons i is ih => simp only [List.map_cons, List.flatten_cons, ih, V.sel, List.filterMap_append]
  have he := Ent.sel Γ iss.flatten hn
  have hp := he.apart ha
  rw [← hflat] at hp
  refine ⟨_, ⟨fun g hg k o hk => ?_, fun _ => ?_⟩, h ha fun is his => lk_unis ?_⟩
  · obtain ⟨is, his, rfl⟩ := List.mem_map.1 hg
    obtain ⟨x, hx, q⟩ := unis_some hk
    obtain ⟨i, hi, r⟩ := List.mem_filterMap.1 hx
    exact ⟨x, List.mem_of_getElem? r, q⟩
  · have := unis_pairwise hp
    rwa [List.map_map] at this
  · exact ((Ent.sel Γ is ((List.sublist_flatten_of_mem his).nodup hn)).apart ha)
/-- all in one heap -/
theorem Up.one {Γ : Ctx} {Φ : Ctx → Prop} (h : ∀ g, Mem.le (lk Γ) (lk [g]) → Φ [g]) : Up Γ Φ := fun ha =>
  ⟨[unis Γ], ⟨fun g hg k o hk => by simp at hg; subst hg; exact unis_some hk, fun _ => by simp⟩, h _ (lk_unis ha)⟩
theorem Up.apart {Γ : Ctx} {Φ : Ctx → Prop} (h : Γ.Pairwise Disj → Up Γ Φ) : Up Γ Φ := fun ha => h ha ha
theorem Cells.lk {Γ : Ctx} {b o : Nat} {cells : Array Value} {T : TypeId} {fr : Nat × Nat} {vs : List Value} (h : V.lk Γ b (.cells cells T fr)) (hc : ∀ j, j < vs.length → cells[o + j]? = vs[j]?) : Cells Γ b o vs := by
  obtain ⟨g, hg, q⟩ := h
  exact ⟨g, hg, cells, T, fr, q, hc⟩

/-! a call, by its contract -/
/-- a callee that changes the heap at the head -/
theorem CallVC.head {P : Program} {Γr Γr1 Γ : Ctx} {g : PH} {f : FuncId} {args : List Value} {R : Value → Ctx → Prop} {k : Value → Ctx → Prop} (h : Ret P f args Γr1 [g] R)
    (hs : Γr1.Sublist (Γ ++ Γr)) (hk : ∀ v Γ', R v Γ' → k v (Γ' ++ Γ)) : CallVC P Γr f args (g :: Γ) k :=
  ⟨Γr1, [g], Γ, R, h, List.Perm.refl _, hs, hk⟩
theorem CallVC.perm {P : Program} {Γr Γr1 Γm Γf Γ : Ctx} {f : FuncId} {args : List Value} {R : Value → Ctx → Prop} {k : Value → Ctx → Prop} (h : Ret P f args Γr1 Γm R) (hp : Γ.Perm (Γm ++ Γf))
    (hs : Γr1.Sublist (Γf ++ Γr)) (hk : ∀ v Γ', R v Γ' → k v (Γ' ++ Γf)) : CallVC P Γr f args Γ k :=
  ⟨Γr1, Γm, Γf, R, h, hp, hs, hk⟩
/-- a callee that only reads -/
theorem CallVC.read {P : Program} {Γr Γ : Ctx} {f : FuncId} {args : List Value} {R : Value → Ctx → Prop} {k : Value → Ctx → Prop} (h : Ret P f args (Γ ++ Γr) [] R)
    (hk : ∀ v Γ', R v Γ' → k v (Γ' ++ Γ)) : CallVC P Γr f args Γ k :=
  ⟨Γ ++ Γr, [], Γ, R, h, List.Perm.refl _, List.Sublist.refl _, hk⟩
theorem Ret.mono {P : Program} {f : FuncId} {args : List Value} {Γr Γm : Ctx} {R R' : Value → Ctx → Prop} (h : Ret P f args Γr Γm R) (hr : ∀ v Γ, R v Γ → R' v Γ) : Ret P f args Γr Γm R' :=
  ⟨h.fn, fun w hs => (h.calls w hs).mono fun e w' ⟨v, Γ', he, hR, hd⟩ => ⟨v, Γ', he, hr _ _ hR, hd⟩⟩

section
variable {P : Program} {Γr : Ctx} {d : Option Nat} {r : List SOper} {φ : Fr} {Γ : Ctx} {K : Fr → Ctx → Prop}
/-- xs[i] -/
theorem s_idx {sz n cap b o : Nat} {A : Option Addr} {k : IntKind} {j : Int} (hA : A = some ⟨b, o, none⟩) (h0 : 0 ≤ j) (h1 : j < n)
    (hk : vcOps P Γr r (put φ d (.v true (.pointer (some ⟨b, o + j.toNat * sz, none⟩)))) Γ K) : idxC P Γr true d r φ Γ K sz (true, .slice A n cap) (true, .int k j) :=
  ⟨b, o, fun _ => ⟨rfl, rfl, hA, h0, h1⟩, hk⟩
theorem s_load {agg : Bool} {b o : Nat} {vs : List Value} (hc : Cells (Γ ++ Γr) b o vs) (hk : vcOps P Γr r (put φ d (.v true (mkv agg vs))) Γ K) (ha : agg = false → vs.length = 1 := by intro; rfl) :
    loadP P Γr true d r φ Γ K agg vs.length b o true :=
  ⟨ha, vs, rfl, fun _ => ⟨rfl, hc⟩, hk⟩
/-- a load of a part of what lies there -/
theorem s_ld {agg : Bool} {n b o j : Nat} {cs : List Value} (hc : Cells (Γ ++ Γr) b o cs) (hn : j + n ≤ cs.length) (ha : agg = false → n = 1) (hk : vcOps P Γr r (put φ d (.v true (mkv agg ((cs.drop j).take n)))) Γ K) :
    loadP P Γr true d r φ Γ K agg n b (o + j) true := by
  refine ⟨ha, (cs.drop j).take n, by simp; omega, fun _ => ⟨rfl, ?_⟩, hk⟩
  obtain ⟨h, hh, cells, T, fr, hb, hx⟩ := hc
  refine ⟨h, hh, cells, T, fr, hb, fun i hi => ?_⟩
  simp at hi
  rw [Nat.add_assoc, hx (j + i) (by omega), List.getElem?_take, if_pos (by omega), List.getElem?_drop]
theorem s_ld0 {agg : Bool} {n b o : Nat} {cs : List Value} (hc : Cells (Γ ++ Γr) b o cs) (hn : n ≤ cs.length) (ha : agg = false → n = 1) (hk : vcOps P Γr r (put φ d (.v true (mkv agg (cs.take n)))) Γ K) :
    loadP P Γr true d r φ Γ K agg n b o true := s_ld (j := 0) hc (by omega) ha hk
/-- under a guard -/
theorem s_ldg {e on agg : Bool} {n b o j : Nat} {cs : List Value} (hon : e = true → on = true) (hc : e = true → Cells (Γ ++ Γr) b o cs) (hn : j + n ≤ cs.length) (ha : agg = false → n = 1) (hk : vcOps P Γr r (put φ d (.v e (mkv agg ((cs.drop j).take n)))) Γ K) :
    loadP P Γr e d r φ Γ K agg n b (o + j) on := by
  refine ⟨ha, (cs.drop j).take n, by simp; omega, fun he => ⟨hon he, ?_⟩, hk⟩
  obtain ⟨h, hh, cells, T, fr, hb, hx⟩ := hc he
  refine ⟨h, hh, cells, T, fr, hb, fun i hi => ?_⟩
  simp at hi
  rw [Nat.add_assoc, hx (j + i) (by omega), List.getElem?_take, if_pos (by omega), List.getElem?_drop]
theorem s_ldg0 {e on agg : Bool} {n b o : Nat} {cs : List Value} (hon : e = true → on = true) (hc : e = true → Cells (Γ ++ Γr) b o cs) (hn : n ≤ cs.length) (ha : agg = false → n = 1) (hk : vcOps P Γr r (put φ d (.v e (mkv agg (cs.take n)))) Γ K) :
    loadP P Γr e d r φ Γ K agg n b o on := s_ldg (j := 0) hon hc (by omega) ha hk
theorem s_idxg {e ex ei : Bool} {sz n cap b o : Nat} {A : Option Addr} {k : IntKind} {j : Int} (h : e = true → ex = true ∧ ei = true ∧ A = some ⟨b, o, none⟩ ∧ 0 ≤ j ∧ j < n)
    (hk : vcOps P Γr r (put φ d (.v e (.pointer (some ⟨b, o + j.toNat * sz, none⟩)))) Γ K) : idxC P Γr e d r φ Γ K sz (ex, .slice A n cap) (ei, .int k j) := ⟨b, o, h, hk⟩
theorem s_join {a b : Stmt} {M N : List Nat} {Q : Post} (J : List Sl → Ctx → Prop) (h1 : vc P Γr a φ Γ (Q.seq (JoinK M N (looks φ N) J)))
    (h2 : ∀ vs Γ', J vs Γ' → vc P Γr b (zipS M vs ++ proj φ N) Γ' Q) : joinC P Γr a b M N φ Γ Q := ⟨J, h1, h2⟩
/-- what follows is gone through on each way -/
theorem s_split {a b : Stmt} {M N : List Nat} {Q : Post} (h1 : vc P Γr a φ Γ (Q.seq (JoinK M N (looks φ N) (fun vs Γ' => vc P Γr b (zipS M vs ++ proj φ N) Γ' Q)))) : joinC P Γr a b M N φ Γ Q :=
  ⟨fun vs Γ' => vc P Γr b (zipS M vs ++ proj φ N) Γ' Q, h1, fun _ _ h => h⟩
theorem s_loop {a : Stmt} {M N : List Nat} {Q : Post} (I : Nat → List Sl → Ctx → Prop) (n : Nat) (h0 : Up Γ (I n (looks φ M)))
    (h1 : ∀ n vs Γ', I n vs Γ' → vc P Γr a (zipS M vs ++ proj φ N) Γ' (Q.seq (RoundK M N (looks φ N) I n))) : loopC P Γr a M N φ Γ Q := ⟨I, ⟨n, h0⟩, h1⟩
/-- a drawn region in which some heaps are only read -/
theorem s_drawn {ops : List (Bool × SOper)} {L : List Nat} {Q : Post} (Γm Γf : Ctx) (he : Ent Γ (Γm ++ Γf)) (h : vcD P (Γf ++ Γr) ops φ Γm (FinB L Q.nrm Γf)) : drawnC P Γr ops L φ Γ Q := ⟨Γm, Γf, he, h⟩
theorem s_slice {sz n cap : Nat} {A : Option Addr} {lo hi : Option Operand} (l h : Nat)
    (hlo : bnd φ lo l 0) (hhi : bnd φ hi h n)
    (h1 : l ≤ h) (h2 : h ≤ cap) (hk : vcOps P Γr r (put φ d (.v true (.slice (if cap = l then A else A.map (·.add (l * sz))) (h - l) (cap - l)))) Γ K) : slcC P Γr true d r φ Γ K sz lo hi (true, .slice A n cap) :=
  ⟨l, h, fun _ => ⟨rfl, hlo, hhi, h1, h2⟩, hk⟩
end

section
variable {P : Program} {Γr : Ctx} {d : Option Nat} {r : List SOper} {φ : Fr} {Γ : Ctx} {K : Fr → Ctx → Prop}
/-- one that reads -/
theorem s_q {c : Qk} {on : Prop} {vs : List Value} {x : Value} (ho : on) (hq : QR P c vs (Γ ++ Γr) x) (hk : vcOps P Γr r (put φ d (.v true x)) Γ K) : qC P Γr true d r φ Γ K c on vs := ⟨x, fun _ => ⟨ho, hq⟩, hk⟩
end

/-! ### what reads as data -/
class Rep (α : Type) where
  sz : Nat
  ok : Mem → α → List Value → Prop
  len : ∀ {h x cs}, ok h x cs → cs.length = sz
  one : ∀ {h x cs}, ok h x cs → one' cs
  mono : ∀ {h h' x cs}, ok h x cs → Mem.le h h' → ok h' x cs

/-- a slice's place, its capacity and what it holds -/
structure SlOk {α : Type} [Rep α] (h : Mem) (A : Option Addr) (c : Nat) (xs : List α) : Prop where
  cap : xs.length ≤ c
  max : c ≤ maxLen
  short : xs.length ≤ 140737488355328
  at' : xs = [] ∨ ∃ b o cells T fr, A = some ⟨b, o, none⟩ ∧ h b (.cells cells T fr) ∧
    ∀ i x, xs[i]? = some x → ∃ cs, Rep.ok h x cs ∧ ∀ j, j < Rep.sz α → cells[o + i * Rep.sz α + j]? = cs[j]?

theorem SlOk.mono {α : Type} [Rep α] {h h' : Mem} {A : Option Addr} {c : Nat} {xs : List α} (q : SlOk h A c xs) (hh : Mem.le h h') : SlOk h' A c xs := by
  refine ⟨q.cap, q.max, q.short, ?_⟩
  rcases q.at' with q | ⟨b, o, cells, T, fr, hA, hb, hx⟩
  · exact .inl q
  · exact .inr ⟨b, o, cells, T, fr, hA, hh _ _ hb, fun i x hi => let ⟨cs, h1, h2⟩ := hx i x hi; ⟨cs, Rep.mono h1 hh, h2⟩⟩
theorem SlOk.nil {α : Type} [Rep α] {h : Mem} : SlOk (α := α) h none 0 [] := ⟨by simp, by simp, by simp, .inl rfl⟩

theorem SlOk.elem {α : Type} [Rep α] {h : Mem} {A : Option Addr} {c : Nat} {xs : List α} (q : SlOk h A c xs) {i : Nat} {x : α} (hi : xs[i]? = some x) :
    ∃ b o, A = some ⟨b, o, none⟩ ∧ ∃ cs, Rep.ok h x cs ∧ ∀ Γ : Ctx, Mem.le h (lk Γ) → Cells Γ b (o + i * Rep.sz α) cs := by
  rcases q.at' with q | ⟨b, o, cells, T, fr, hA, hb, hx⟩
  · subst q; simp at hi
  · obtain ⟨cs, h1, h2⟩ := hx i x hi
    exact ⟨b, o, hA, cs, h1, fun Γ hΓ => Cells.lk (hΓ _ _ hb) fun j hj => h2 j (by rw [← Rep.len h1]; exact hj)⟩
/-- xs[i], its place and its cells -/
theorem SlOk.get {α : Type} [Rep α] {h : Mem} {A : Option Addr} {c : Nat} {xs : List α} (q : SlOk h A c xs) {i : Nat} (hi : i < xs.length) :
    ∃ b o, A = some ⟨b, o, none⟩ ∧ ∃ cs, Rep.ok h xs[i] cs ∧ ∀ Γ : Ctx, Mem.le h (lk Γ) → Cells Γ b (o + i * Rep.sz α) cs := q.elem (List.getElem?_eq_getElem hi)

/-- xs[l:m] -/
theorem SlOk.slice {α : Type} [Rep α] {h : Mem} {A : Option Addr} {c : Nat} {xs : List α} (q : SlOk h A c xs) {l m : Nat} (h1 : l ≤ m) (h2 : m ≤ xs.length) :
    SlOk h (if c = l then A else A.map (·.add (l * Rep.sz α))) (c - l) ((xs.take m).drop l) := by
  have hc := q.cap
  have hlen : ((xs.take m).drop l).length = m - l := by simp; omega
  refine ⟨by omega, by have := q.max; omega, by have := q.short; omega, ?_⟩
  by_cases e : m = l
  · left
    exact List.eq_nil_of_length_eq_zero (by omega)
  · rcases q.at' with q' | ⟨b, o, cells, T, fr, rfl, hb, hx⟩
    · subst q'; simp at h2; omega
    · right
      refine ⟨b, o + l * Rep.sz α, cells, T, fr, ?_, hb, ?_⟩
      · rw [if_neg (by omega)]
        simp [add_mk]
      · intro i x hi
        have hi' : xs[l + i]? = some x := by
          rw [List.getElem?_drop, List.getElem?_take] at hi
          split at hi
          · exact hi
          · cases hi
        obtain ⟨cs, h3, h4⟩ := hx _ _ hi'
        refine ⟨cs, h3, fun j hj => ?_⟩
        rw [← h4 j hj]
        congr 1
        rw [Nat.add_mul]
        omega

/-- what is one cell -/
class Sc (α : Type) where
  enc : α → Value
  one : ∀ x, (enc x).oneCell' = true
  cells : ∀ x, cellsV (enc x) = [enc x]
instance (priority := low) {α : Type} [Sc α] : Rep α where
  sz := 1
  ok _ x cs := cs = [Sc.enc x]
  len h := by subst h; rfl
  one h := by subst h; simp [one', Sc.one]
  mono h _ := h
instance : Sc Int := ⟨fun x => .int .i64 x, fun _ => rfl, fun _ => rfl⟩
instance : Sc Bool := ⟨fun x => .bool x, fun _ => rfl, fun _ => rfl⟩
instance : Sc ByteArray := ⟨fun x => .string x, fun _ => rfl, fun _ => rfl⟩
instance {α : Type} [Rep α] : Rep (List α) where
  sz := 1
  ok h xs cs := ∃ A c, cs = [.slice A xs.length c] ∧ SlOk h A c xs
  len h := by obtain ⟨A, c, rfl, _⟩ := h; rfl
  one h := by obtain ⟨A, c, rfl, _⟩ := h; simp [one', Value.oneCell']
  mono h hh := by obtain ⟨A, c, rfl, q⟩ := h; exact ⟨A, c, rfl, q.mono hh⟩

theorem ok_sc {α : Type} [Sc α] {h : Mem} {x : α} {cs : List Value} (q : Rep.ok h x cs) : cs = [Sc.enc x] := q
theorem ok_int {h : Mem} {x : Int} {cs : List Value} (q : Rep.ok h x cs) : cs = [.int .i64 x] := q
theorem ok_bool {h : Mem} {x : Bool} {cs : List Value} (q : Rep.ok h x cs) : cs = [.bool x] := q
theorem ok_list {α : Type} [Rep α] {h : Mem} {xs : List α} {cs : List Value} (q : Rep.ok h xs cs) : ∃ A c, cs = [.slice A xs.length c] ∧ SlOk h A c xs := q
theorem SlOk.int {h : Mem} {A : Option Addr} {c : Nat} {xs : List Int} (q : SlOk h A c xs) {i : Nat} (hi : i < xs.length) :
    ∃ b o, A = some ⟨b, o, none⟩ ∧ ∀ Γ : Ctx, Mem.le h (lk Γ) → Cells Γ b (o + i) [.int .i64 xs[i]] := by
  obtain ⟨b, o, hA, cs, h1, h2⟩ := q.get hi
  obtain rfl := ok_int h1
  exact ⟨b, o, hA, fun Γ h => by simpa [Rep.sz] using h2 Γ h⟩
theorem SlOk.bool {h : Mem} {A : Option Addr} {c : Nat} {xs : List Bool} (q : SlOk h A c xs) {i : Nat} (hi : i < xs.length) :
    ∃ b o, A = some ⟨b, o, none⟩ ∧ ∀ Γ : Ctx, Mem.le h (lk Γ) → Cells Γ b (o + i) [.bool xs[i]] := by
  obtain ⟨b, o, hA, cs, h1, h2⟩ := q.get hi
  obtain rfl := ok_bool h1
  exact ⟨b, o, hA, fun Γ h => by simpa [Rep.sz] using h2 Γ h⟩
theorem SlOk.list {α : Type} [Rep α] {h : Mem} {A : Option Addr} {c : Nat} {xs : List (List α)} (q : SlOk h A c xs) {i : Nat} (hi : i < xs.length) :
    ∃ b o, A = some ⟨b, o, none⟩ ∧ ∃ A' c', SlOk h A' c' xs[i] ∧ ∀ Γ : Ctx, Mem.le h (lk Γ) → Cells Γ b (o + i) [.slice A' xs[i].length c'] := by
  obtain ⟨b, o, hA, cs, h1, h2⟩ := q.get hi
  obtain ⟨A', c', rfl, h3⟩ := ok_list h1
  exact ⟨b, o, hA, A', c', h3, fun Γ h => by simpa [Rep.sz] using h2 Γ h⟩

/-! ### what is the call's own -/
/-- an array of scalars -/
def Arr {α : Type} [Sc α] (g : PH) (b : Nat) (T : TypeId) (xs : List α) : Prop := g b = some (.cells (xs.map Sc.enc).toArray T (0, 0))
theorem zerosL_enc {α : Type} [Sc α] (z : α) : ∀ m, zerosL [Sc.enc z] m = (List.replicate m z).map Sc.enc
  | 0 => rfl
  | m + 1 => by simp [zerosL, zerosL_enc z m, List.replicate_succ]
theorem Arr.made {α : Type} [Sc α] (z : α) (b : Nat) (T : TypeId) (m : Nat) : Arr (one b (.cells (zerosL [Sc.enc z] m).toArray T)) b T (List.replicate m z) := by
  unfold Arr
  rw [one_self, zerosL_enc]
theorem Arr.slok {α : Type} [Sc α] {g : PH} {b : Nat} {T : TypeId} {xs : List α} {L : Mem} (h : Arr g b T xs) (hL : Mem.le (lk [g]) L) {c : Nat} (hc : xs.length ≤ c) (hm : c ≤ maxLen) (hs : xs.length ≤ 140737488355328) :
    SlOk L (some ⟨b, 0, none⟩) c xs := by
  refine ⟨hc, hm, hs, .inr ⟨b, 0, _, T, _, rfl, hL _ _ (lk_one.2 h), fun i x hi => ⟨[Sc.enc x], rfl, fun j hj => ?_⟩⟩⟩
  have : j = 0 := by simp [Rep.sz] at hj; exact hj
  subst this
  simp [Rep.sz, hi]
theorem Arr.cell {α : Type} [Sc α] {g : PH} {b : Nat} {T : TypeId} {xs : List α} (h : Arr g b T xs) {i : Nat} (hi : i < xs.length) {Γ : Ctx} (hg : g ∈ Γ) : Cells Γ b i [Sc.enc xs[i]] := by
  refine ⟨g, hg, _, T, _, h, fun j hj => ?_⟩
  have : j = 0 := by simp at hj; exact hj
  subst this
  simp [hi]
theorem setC_sc {α : Type} [Sc α] (xs : List α) (i : Nat) (x : α) (hi : i < xs.length) : setC (xs.map Sc.enc) i 1 (Sc.enc x) = (xs.set i x).map Sc.enc := by
  unfold setC
  rw [Sc.cells, List.map_set, List.set_eq_take_append_cons_drop]
  simp [hi]
theorem Arr.upd {α : Type} [Sc α] {g : PH} {b : Nat} {T : TypeId} {xs : List α} (h : Arr g b T xs) {i : Nat} (hi : i < xs.length) (x : α) : Arr (V.upd g b (.cells (setC (xs.map Sc.enc) i 1 (Sc.enc x)).toArray T)) b T (xs.set i x) := by
  unfold Arr
  rw [upd_self, setC_sc xs i x hi]
theorem upd_other {g : PH} {b k : Nat} {o : Obj} (h : k ≠ b) : upd g b o k = g k := by simp [upd, h]

section
variable {P : Program} {Γr : Ctx} {d : Option Nat} {r : List SOper} {φ : Fr} {Γ : Ctx} {K : Fr → Ctx → Prop}
/-- xs[i] = x -/
theorem s_storeA {α : Type} [Sc α] {g : PH} {b i ix : Nat} {T : TypeId} {xs : List α} (x : α) (hg : Γ[ix]? = some g) (h : Arr g b T xs) (hi : i < xs.length)
    (hk : ∀ g', Arr g' b T (xs.set i x) → (∀ k, k ≠ b → g' k = g k) → vcOps P Γr r φ (Γ.set ix g') K) : storeP P Γr r φ Γ K 1 b i (Sc.enc x) := by
  refine ⟨ix, g, _, T, hg, h, by simp; omega, ?_⟩
  exact hk _ (h.upd hi x) (fun k hne => upd_other hne)
/-- &x of a variable that is captured -/
theorem s_storeV {g : PH} {b ix : Nat} {T : TypeId} {n : Nat} {cs : List Value} {x : Value} (hg : Γ[ix]? = some g) (h : g b = some (.cells cs.toArray T (0, 0))) (hn : cs.length = n)
    (hx : (cellsV x).length = n) (hk : vcOps P Γr r φ (Γ.set ix (upd g b (.cells (cellsV x).toArray T))) K) : storeP P Γr r φ Γ K n b 0 x := by
  refine ⟨ix, g, _, T, hg, h, by simp [hn], ?_⟩
  have : setC cs 0 n x = cellsV x := by simp [setC, ← hn]
  simp only [List.toList_toArray, this]
  exact hk
end

/-- a list that grows: its row lies in g, what its elements lead to in L -/
def Bld {α : Type} [Rep α] (g : PH) (L : Mem) (e : TypeId) (v : Value) (xs : List α) : Prop :=
  ∃ cs, Row g e (Rep.sz α) v xs.length cs ∧ ∀ i x, xs[i]? = some x → ∃ c, Rep.ok L x c ∧ ∀ j, j < Rep.sz α → cs[i * Rep.sz α + j]? = c[j]?
theorem Bld.nil {α : Type} [Rep α] (g : PH) (L : Mem) (e : TypeId) : Bld (α := α) g L e (.slice none 0 0) [] := ⟨[], ⟨by simp, .inl ⟨rfl, none, rfl⟩⟩, by simp⟩
theorem Bld.mono {α : Type} [Rep α] {g g' : PH} {L L' : Mem} {e : TypeId} {v : Value} {xs : List α} (h : Bld g L e v xs) (hg : Mem.le (lk [g]) (lk [g'])) (hL : Mem.le L L') : Bld g' L' e v xs := by
  obtain ⟨cs, ⟨h1, h2⟩, h3⟩ := h
  refine ⟨cs, ⟨h1, ?_⟩, fun i x hi => let ⟨c, q1, q2⟩ := h3 i x hi; ⟨c, Rep.mono q1 hL, q2⟩⟩
  rcases h2 with q | ⟨b, o, cap, cur, q1, q2, q3, q4, q5⟩
  · exact .inl q
  · exact .inr ⟨b, o, cap, cur, q1, q2, q3, lk_one.1 (hg _ _ (lk_one.2 q4)), q5⟩
theorem Bld.val {α : Type} [Rep α] {g : PH} {L : Mem} {e : TypeId} {v : Value} {xs : List α} (h : Bld g L e v xs) : ∃ A c, v = .slice A xs.length c := by
  obtain ⟨cs, ⟨h1, h2⟩, h3⟩ := h
  rcases h2 with ⟨q0, A, q⟩ | ⟨b, o, cap, cur, q1, _⟩
  · exact ⟨A, 0, by rw [q, q0]⟩
  · exact ⟨_, _, q1⟩
theorem Bld.slok {α : Type} [Rep α] {g : PH} {L L' : Mem} {e : TypeId} {v : Value} {xs : List α} (h : Bld g L e v xs) (hg : Mem.le (lk [g]) L') (hL : Mem.le L L') (hs : xs.length ≤ 140737488355328) :
    ∃ A c, v = .slice A xs.length c ∧ SlOk L' A c xs := by
  obtain ⟨cs, ⟨h1, h2⟩, h3⟩ := h
  rcases h2 with ⟨q0, A, rfl⟩ | ⟨b, o, cap, cur, rfl, q2, q3, q4, q5, q6⟩
  · have hx : xs = [] := List.eq_nil_of_length_eq_zero q0
    subst hx
    exact ⟨A, 0, rfl, by simp, by simp, by simp, .inl rfl⟩
  · refine ⟨_, _, rfl, q2, q3, hs, .inr ⟨b, o, cur, e, _, rfl, hg _ _ (lk_one.2 q4), fun i x hi => ?_⟩⟩
    obtain ⟨c, r1, r2⟩ := h3 i x hi
    refine ⟨c, Rep.mono r1 hL, fun j hj => ?_⟩
    rw [← r2 j hj, ← q6, List.getElem?_take, List.getElem?_drop]
    have hlt : i < xs.length := (List.getElem?_eq_some_iff.1 hi).1
    rw [if_pos]
    · simp [Nat.add_assoc]
    · calc i * Rep.sz α + j < i * Rep.sz α + Rep.sz α := by omega
        _ = (i + 1) * Rep.sz α := by rw [Nat.add_mul, Nat.one_mul]
        _ ≤ xs.length * Rep.sz α := Nat.mul_le_mul_right _ hlt
theorem Bld.snoc {α : Type} [Rep α] {g g' : PH} {L L' : Mem} {e : TypeId} {v v' : Value} {xs ys : List α} {cs ds : List Value} (h1 : Row g e (Rep.sz α) v xs.length cs) (h3 : ∀ i x, xs[i]? = some x → ∃ c, Rep.ok L x c ∧ ∀ j, j < Rep.sz α → cs[i * Rep.sz α + j]? = c[j]?)
    (h4 : ∀ i x, ys[i]? = some x → ∃ c, Rep.ok L' x c ∧ ∀ j, j < Rep.sz α → ds[i * Rep.sz α + j]? = c[j]?) (hL : Mem.le L L') (hr : Row g' e (Rep.sz α) v' (xs.length + ys.length) (cs ++ ds)) : Bld g' L' e v' (xs ++ ys) := by
  refine ⟨cs ++ ds, by rw [List.length_append]; exact hr, fun i x hi => ?_⟩
  have hl := h1.1
  by_cases hlt : i < xs.length
  · rw [List.getElem?_append_left hlt] at hi
    obtain ⟨c, q1, q2⟩ := h3 i x hi
    refine ⟨c, Rep.mono q1 hL, fun j hj => ?_⟩
    rw [← q2 j hj, List.getElem?_append_left]
    rw [hl]
    calc i * Rep.sz α + j < i * Rep.sz α + Rep.sz α := by omega
        _ = (i + 1) * Rep.sz α := by rw [Nat.add_mul, Nat.one_mul]
        _ ≤ xs.length * Rep.sz α := Nat.mul_le_mul_right _ hlt
  · rw [List.getElem?_append_right (by omega)] at hi
    obtain ⟨c, q1, q2⟩ := h4 _ x hi
    refine ⟨c, q1, fun j hj => ?_⟩
    have hge : xs.length * Rep.sz α ≤ i * Rep.sz α := Nat.mul_le_mul_right _ (by omega)
    rw [← q2 j hj, List.getElem?_append_right (by rw [hl]; omega), hl, Nat.sub_mul]
    congr 1
    omega
section
variable {P : Program} {Γr : Ctx} {d : Option Nat} {r : List SOper} {φ : Fr} {Γ : Ctx} {K : Fr → Ctx → Prop}
/-- xs = append(xs, x): x's cells lie at the begin of a block -/
theorem s_app1 {α : Type} [Rep α] {g : PH} {ix : Nat} {L L' : Mem} {t e : TypeId} {sz bytes : Nat} {z : Value} {v : Value} {xs : List α} {x : α} {b c : Nat} {cs : List Value}
    (hg : Γ[ix]? = some g) (h : Bld g L e v xs) (hL : Mem.le L L') (hx : Rep.ok L' x cs) (hc : Cells (Γ ++ Γr) b 0 cs) (hsz : sz = Rep.sz α) (hby : (xs.length + 1) * bytes ≤ 140737488355328) (hm : xs.length + 1 ≤ maxLen)
    (hk : ∀ v' g', Bld g' L' e v' (xs ++ [x]) → KeptBut v v' g g' → vcOps P Γr r (put φ d (.v true v')) (Γ.set ix g') K) :
    appendC P Γr d r φ Γ K t e sz bytes z (true, v) (true, .slice (some ⟨b, 0, none⟩) 1 c) := by
  obtain ⟨ds, h1, h3⟩ := h
  subst hsz
  refine ⟨rfl, rfl, ix, g, xs.length, ds, cs, hg, h1, by rw [Rep.len hx]; simp, Rep.one hx, .inr ⟨b, 0, rfl, hc⟩, hby, hm, fun v' g' hr _ hkp => hk v' g' ?_ hkp⟩
  refine Bld.snoc h1 h3 (fun i y hi => ?_) hL hr
  cases i with
  | zero => simp at hi; subst hi; exact ⟨cs, hx, fun j hj => by simp⟩
  | succ i => simp at hi
/-- what a row was is there still -/
def RowKept (g g' : PH) (e : TypeId) (sz : Nat) (v : Value) (n : Nat) : Prop := ∃ cs, Row g e sz v n cs ∧ Row g' e sz v n cs
/-- the same; what xs was is there still -/
theorem s_app1K {α : Type} [Rep α] {g : PH} {ix : Nat} {L L' : Mem} {t e : TypeId} {sz bytes : Nat} {z : Value} {v : Value} {xs : List α} {x : α} {b c : Nat} {cs : List Value}
    (hg : Γ[ix]? = some g) (h : Bld g L e v xs) (hL : Mem.le L L') (hx : Rep.ok L' x cs) (hc : Cells (Γ ++ Γr) b 0 cs) (hsz : sz = Rep.sz α) (hby : (xs.length + 1) * bytes ≤ 140737488355328) (hm : xs.length + 1 ≤ maxLen)
    (hk : ∀ v' g', Bld g' L' e v' (xs ++ [x]) → RowKept g g' e (Rep.sz α) v xs.length → KeptBut v v' g g' → vcOps P Γr r (put φ d (.v true v')) (Γ.set ix g') K) :
    appendC P Γr d r φ Γ K t e sz bytes z (true, v) (true, .slice (some ⟨b, 0, none⟩) 1 c) := by
  obtain ⟨ds, h1, h3⟩ := h
  subst hsz
  refine ⟨rfl, rfl, ix, g, xs.length, ds, cs, hg, h1, by rw [Rep.len hx]; simp, Rep.one hx, .inr ⟨b, 0, rfl, hc⟩, hby, hm, fun v' g' hr hold hkp => hk v' g' ?_ ⟨ds, h1, hold⟩ hkp⟩
  refine Bld.snoc h1 h3 (fun i y hi => ?_) hL hr
  cases i with
  | zero => simp at hi; subst hi; exact ⟨cs, hx, fun j hj => by simp⟩
  | succ i => simp at hi
/-- xs = append(xs, ys...) -/
theorem s_appL {α : Type} [Rep α] {g : PH} {ix : Nat} {L L' L2 : Mem} {t e : TypeId} {sz bytes : Nat} {z : Value} {v : Value} {xs ys : List α} {A : Option Addr} {c : Nat}
    (hg : Γ[ix]? = some g) (h : Bld g L e v xs) (hL : Mem.le L L') (hy : SlOk L2 A c ys) (h2 : Mem.le L2 (lk (Γ ++ Γr))) (h2' : Mem.le L2 L') (hsz : sz = Rep.sz α) (hby : (xs.length + ys.length) * bytes ≤ 140737488355328) (hm : xs.length + ys.length ≤ maxLen)
    (hk : ∀ v' g', Bld g' L' e v' (xs ++ ys) → KeptBut v v' g g' → vcOps P Γr r (put φ d (.v true v')) (Γ.set ix g') K) :
    appendC P Γr d r φ Γ K t e sz bytes z (true, v) (true, .slice A ys.length c) := by
  obtain ⟨ds, h1, h3⟩ := h
  subst hsz
  rcases hy.at' with rfl | ⟨b, o, cells, T, fr, rfl, hb, hx⟩
  · refine ⟨rfl, rfl, ix, g, xs.length, ds, [], hg, h1, by simp, by simp [one'], .inl rfl, hby, hm, fun v' g' hr _ hkp => hk v' g' ?_ hkp⟩
    exact Bld.snoc h1 h3 (by simp) hL hr
  · let cs := (List.range (ys.length * Rep.sz α)).map fun k => (cells[o + k]?).getD undef
    have hcell : ∀ i y, ys[i]? = some y → ∃ c, Rep.ok L2 y c ∧ ∀ j, j < Rep.sz α → cs[i * Rep.sz α + j]? = c[j]? := by
      intro i y hi
      obtain ⟨c', q1, q2⟩ := hx i y hi
      refine ⟨c', q1, fun j hj => ?_⟩
      have hlt : i < ys.length := (List.getElem?_eq_some_iff.1 hi).1
      have hin : i * Rep.sz α + j < ys.length * Rep.sz α := by
        calc i * Rep.sz α + j < i * Rep.sz α + Rep.sz α := by omega
          _ = (i + 1) * Rep.sz α := by rw [Nat.add_mul, Nat.one_mul]
          _ ≤ ys.length * Rep.sz α := Nat.mul_le_mul_right _ hlt
      have := q2 j hj
      have hj' : j < c'.length := by rw [Rep.len q1]; exact hj
      rw [List.getElem?_eq_getElem hj'] at this ⊢
      simp only [cs]
      rw [List.getElem?_map, List.getElem?_range hin]
      simp only [Option.map_some, ← Nat.add_assoc, this, Option.getD_some]
    have hdiv : ∀ k, k < ys.length * Rep.sz α → ∃ i y, ys[i]? = some y ∧ ∃ j, j < Rep.sz α ∧ k = i * Rep.sz α + j := by
      intro k hk'
      have hpos : 0 < Rep.sz α := by
        rcases Nat.eq_zero_or_pos (Rep.sz α) with q | q
        · rw [q] at hk'; simp at hk'
        · exact q
      refine ⟨k / Rep.sz α, ys[k / Rep.sz α]'(Nat.div_lt_of_lt_mul (by rw [Nat.mul_comm]; exact hk')), List.getElem?_eq_getElem _, k % Rep.sz α, Nat.mod_lt _ hpos, ?_⟩
      rw [Nat.mul_comm]
      exact (Nat.div_add_mod k (Rep.sz α)).symm
    refine ⟨rfl, rfl, ix, g, xs.length, ds, cs, hg, h1, by simp [cs], fun u hu => ?_, .inr ⟨b, o, rfl, Cells.lk (h2 _ _ hb) fun k hk' => ?_⟩, hby, hm, fun v' g' hr _ hkp => hk v' g' ?_ hkp⟩
    · obtain ⟨k, hk', rfl⟩ := List.mem_map.1 hu
      obtain ⟨i, y, hi, j, hj, rfl⟩ := hdiv k (by simpa using hk')
      obtain ⟨c', q1, q2⟩ := hx i y hi
      rw [← Nat.add_assoc, q2 j hj]
      have hj' : j < c'.length := by rw [Rep.len q1]; exact hj
      rw [List.getElem?_eq_getElem hj']
      exact Rep.one q1 _ (List.getElem_mem hj')
    · have hk2 : k < ys.length * Rep.sz α := by simpa [cs] using hk'
      obtain ⟨i, y, hi, j, hj, rfl⟩ := hdiv k hk2
      obtain ⟨c', q1, q2⟩ := hx i y hi
      obtain ⟨c2, q3, q4⟩ := hcell i y hi
      have hj' : j < c'.length := by rw [Rep.len q1]; exact hj
      have e1 : cells[o + (i * Rep.sz α + j)]? = some c'[j] := by rw [← Nat.add_assoc, q2 j hj, List.getElem?_eq_getElem hj']
      simp only [cs]
      rw [List.getElem?_map, List.getElem?_range hk2]
      simp [e1]
    · exact Bld.snoc h1 h3 (fun i y hi => let ⟨c', q1, q2⟩ := hcell i y hi; ⟨c', Rep.mono q1 h2', q2⟩) hL hr
end

/-- v0 was the row v earlier -/
structure Snap {α : Type} [Rep α] (g : PH) (L : Mem) (e : TypeId) (v0 v : Value) (xs0 xs : List α) : Prop where
  old : Bld g L e v0 xs0
  len : xs0.length ≤ xs.length
  same : ∀ b, rowBlk v0 = some b → rowBlk v = some b → ∃ A n0 n c, v0 = .slice A n0 c ∧ v = .slice A n c
theorem Snap.refl {α : Type} [Rep α] {g : PH} {L : Mem} {e : TypeId} {v : Value} {xs : List α} (h : Bld g L e v xs) : Snap g L e v v xs xs :=
  ⟨h, Nat.le_refl _, fun b _ _ => by obtain ⟨A, c, rfl⟩ := h.val; exact ⟨A, _, _, c, rfl, rfl⟩⟩
theorem Snap.app {α : Type} [Rep α] {g g' : PH} {L L2 L' : Mem} {e : TypeId} {v0 v v' : Value} {xs0 xs ys : List α} (h : Snap g L e v0 v xs0 xs) (hB : Bld g L2 e v xs) (hO : RowKept g g' e (Rep.sz α) v xs.length) (hN : Bld g' L' e v' (xs ++ ys)) (hK : KeptBut v v' g g') : Snap g' L e v0 v' xs0 (xs ++ ys) := by
  obtain ⟨⟨cs0, ⟨hl0, h0⟩, hr0⟩, hlen, hsame⟩ := h
  obtain ⟨A, c, rfl⟩ := hB.val
  obtain ⟨A', c', rfl⟩ := hN.val
  have hk2 := hK.2 A _ c A' _ c' rfl rfl
  refine ⟨⟨cs0, ⟨hl0, ?_⟩, hr0⟩, by rw [List.length_append]; omega, ?_⟩
  · rcases h0 with q | ⟨b, o, cap, cur, rfl, q2, q3, q4, q5, q6⟩
    · exact .inl q
    · right
      by_cases hb : rowBlk (.slice A xs.length c) = some b
      · obtain ⟨A2, n0, n, c2, e1, e2⟩ := hsame b rfl hb
        simp only [Value.slice.injEq] at e1 e2
        obtain ⟨rfl, rfl, rfl⟩ := e1
        obtain ⟨rfl, rfl, rfl⟩ := e2
        obtain ⟨ds, ⟨d1, d2⟩, ⟨d1', d2'⟩⟩ := hO
        rcases d2 with ⟨_, _, q⟩ | ⟨b2, o2, cap2, cur2, p1, p2, p3, p4, p5, p6⟩
        · simp only [Value.slice.injEq] at q
          omega
        simp only [Value.slice.injEq, Option.some.injEq, Addr.mk.injEq, and_true] at p1
        obtain ⟨⟨rfl, rfl⟩, _, _⟩ := p1
        rw [q4] at p4
        simp only [Option.some.injEq, Obj.cells.injEq, true_and, and_true] at p4
        subst p4
        rcases d2' with ⟨_, _, q⟩ | ⟨b1, o1, cap1, cur1, r1, r2, r3, r4, r5, r6⟩
        · simp only [Value.slice.injEq] at q
          omega
        simp only [Value.slice.injEq, Option.some.injEq, Addr.mk.injEq, and_true] at r1
        obtain ⟨⟨rfl, rfl⟩, _, e3⟩ := r1
        have e3 : cap = cap1 := by omega
        subst e3
        have hmul : xs0.length * Rep.sz α ≤ xs.length * Rep.sz α := Nat.mul_le_mul_right _ hlen
        have t1 := congrArg (List.take (xs0.length * Rep.sz α)) r6
        have t2 := congrArg (List.take (xs0.length * Rep.sz α)) p6
        rw [List.take_take, Nat.min_eq_left hmul] at t1 t2
        exact ⟨b, o, cap, cur1, rfl, q2, q3, r4, r5, by rw [t1, ← t2, q6]⟩
      · refine ⟨b, o, cap, cur, rfl, q2, q3, ?_, q5, q6⟩
        rw [hK.1 b hb (by rw [q4]; simp), q4]
  · intro b e1 e2
    rcases h0 with ⟨_, B, rfl⟩ | ⟨b1, o, cap, cur, rfl, q2, q3, q4, q5, q6⟩
    · cases B <;> simp [rowBlk] at e1
    simp only [rowBlk, Option.some.injEq] at e1
    subst e1
    rcases Nat.lt_or_ge c (xs ++ ys).length with hc | hc
    · have := hk2.2 hc b1 e2
      rw [q4] at this
      cases this
    · obtain ⟨rfl, rfl⟩ := hk2.1 hc
      obtain ⟨A2, n0, n, c2, e3, e4⟩ := hsame b1 rfl (by
        rcases A' with _ | a <;> rcases c' with _ | c <;> simp [rowBlk] at e2 ⊢
        exact e2)
      simp only [Value.slice.injEq] at e3 e4
      obtain ⟨rfl, rfl, rfl⟩ := e3
      obtain ⟨rfl, rfl, rfl⟩ := e4
      exact ⟨_, _, _, _, rfl, rfl⟩
/-! parts of a row -/
theorem Bld.take {α : Type} [Rep α] {g : PH} {L : Mem} {e : TypeId} {A : Option Addr} {n c : Nat} {xs : List α} (h : Bld g L e (.slice A n c) xs) {k : Nat} (hk : k ≤ xs.length) : Bld g L e (.slice A k c) (xs.take k) := by
  obtain ⟨cs, ⟨h1, h2⟩, h3⟩ := h
  have hkl : k * Rep.sz α ≤ xs.length * Rep.sz α := Nat.mul_le_mul_right _ hk
  have hl : (xs.take k).length = k := by simp; omega
  refine ⟨cs.take (k * Rep.sz α), ⟨by rw [List.length_take, h1, hl]; omega, ?_⟩, fun i x hi => ?_⟩
  · rcases h2 with ⟨q0, A', q⟩ | ⟨b, o, cap, cur, q1, q2, q3, q4, q5, q6⟩
    · left
      simp only [Value.slice.injEq] at q
      obtain ⟨rfl, rfl, rfl⟩ := q
      have : k = 0 := by omega
      subst this
      exact ⟨by simp, _, rfl⟩
    · right
      simp only [Value.slice.injEq] at q1
      obtain ⟨rfl, rfl, rfl⟩ := q1
      have hl : (xs.take k).length = k := by simp; omega
      rw [hl]
      refine ⟨b, o, cap, cur, rfl, by omega, q3, q4, q5, ?_⟩
      rw [← q6, List.take_take, Nat.min_eq_left hkl]
  · rw [List.getElem?_take] at hi
    split at hi
    · rename_i hlt
      obtain ⟨c', r1, r2⟩ := h3 i x hi
      refine ⟨c', r1, fun j hj => ?_⟩
      rw [← r2 j hj, List.getElem?_take, if_pos]
      calc i * Rep.sz α + j < i * Rep.sz α + Rep.sz α := by omega
        _ = (i + 1) * Rep.sz α := by rw [Nat.add_mul, Nat.one_mul]
        _ ≤ k * Rep.sz α := Nat.mul_le_mul_right _ hlt
    · cases hi
section
variable {P : Program} {Γr : Ctx} {d : Option Nat} {r : List SOper} {φ : Fr} {Γ : Ctx} {K : Fr → Ctx → Prop}
/-- xs[:h] -/
theorem s_hi {sz n cap : Nat} {A : Option Addr} {hi : Operand} (h : Nat) (hb : bnd φ (some hi) h n) (hc : h ≤ cap) (hk : vcOps P Γr r (put φ d (.v true (.slice A h cap))) Γ K) :
    slcC P Γr true d r φ Γ K sz none (some hi) (true, .slice A n cap) := by
  refine s_slice 0 h rfl hb (by omega) hc ?_
  have : (if cap = 0 then A else A.map (·.add (0 * sz))) = A := by
    split
    · rfl
    · cases A <;> simp [Addr.add]
  rw [this]
  simpa using hk
/-- xs[l:] -/
theorem s_lo {sz n cap : Nat} {A : Option Addr} {lo : Operand} (l : Nat) (hb : bnd φ (some lo) l 0) (hl : l ≤ n) (hc : n ≤ cap) (hk : ∀ A', A' = (if cap = l then A else A.map (·.add (l * sz))) → vcOps P Γr r (put φ d (.v true (.slice A' (n - l) (cap - l)))) Γ K) :
    slcC P Γr true d r φ Γ K sz (some lo) none (true, .slice A n cap) := s_slice l n hb rfl hl hc (hk _ rfl)
/-- xs = append(xs, x), of scalars -/
theorem s_app1S {α : Type} [Sc α] {g : PH} {ix : Nat} {L : Mem} {t e : TypeId} {sz bytes : Nat} {z : Value} {v : Value} {xs : List α} {b c : Nat} (x : α)
    (hg : Γ[ix]? = some g) (h : Bld g L e v xs) (hc : Cells (Γ ++ Γr) b 0 [Sc.enc x]) (hsz : sz = 1) (hby : (xs.length + 1) * bytes ≤ 140737488355328) (hm : xs.length + 1 ≤ maxLen)
    (hk : ∀ v' g', Bld g' L e v' (xs ++ [x]) → KeptBut v v' g g' → vcOps P Γr r (put φ d (.v true v')) (Γ.set ix g') K) :
    appendC P Γr d r φ Γ K t e sz bytes z (true, v) (true, .slice (some ⟨b, 0, none⟩) 1 c) := s_app1 hg h (Mem.le.refl _) (x := x) rfl hc hsz hby hm hk
theorem cells_one {b : Nat} {T : TypeId} {cs : List Value} {Γ : Ctx} : Cells (one b (.cells cs.toArray T) :: Γ) b 0 cs := ⟨_, List.mem_cons_self .., cs.toArray, T, _, one_self _ _, fun j hj => by simp⟩
end
theorem SlOk.drop {α : Type} [Rep α] {h : Mem} {A : Option Addr} {c : Nat} {xs : List α} (q : SlOk h A c xs) {l : Nat} (hl : l ≤ xs.length) :
    SlOk h (if c = l then A else A.map (·.add (l * Rep.sz α))) (c - l) (xs.drop l) := by
  have := q.slice hl (Nat.le_refl _)
  rwa [List.take_length] at this
theorem Row.len {g : PH} {e : TypeId} {sz : Nat} {v : Value} {n : Nat} {xs : List Value} (h : Row g e sz v n xs) : ∃ A c, v = .slice A n c ∧ n ≤ c := by
  rcases h.2 with ⟨q0, A, q⟩ | ⟨b, o, cap, cur, q1, q2, _⟩
  · exact ⟨A, 0, by rw [q, q0], by omega⟩
  · exact ⟨_, _, q1, q2⟩

section
variable {P : Program} {Γr : Ctx} {d : Option Nat} {r : List SOper} {φ : Fr} {Γ : Ctx} {K : Fr → Ctx → Prop}
end
theorem cells_lk {Γ : Ctx} {b : Nat} {T : TypeId} {fr : Nat × Nat} {cs : List Value} (h : lk Γ b (.cells cs.toArray T fr)) : Cells Γ b 0 cs := Cells.lk h fun j hj => by simp
theorem lk_r (Γ Γr : Ctx) : Mem.le (lk Γr) (lk (Γ ++ Γr)) := lk_sub fun g hg => by simp [hg]
theorem lk_l (Γ Γr : Ctx) : Mem.le (lk Γ) (lk (Γ ++ Γr)) := lk_sub fun g hg => by simp [hg]
theorem SlOk.r {α : Type} [Rep α] {Γ Γr : Ctx} {A : Option Addr} {c : Nat} {xs : List α} (h : SlOk (lk Γr) A c xs) : SlOk (lk (Γ ++ Γr)) A c xs := h.mono (lk_r _ _)
/-! numbers -/
theorem wrap_id {x : Int} (h0 : -9223372036854775808 ≤ x) (h1 : x ≤ 9223372036854775807) : IntKind.i64.wrap x = x := by
  rw [IntKind.wrap_i64]; omega
end Go.Proofs.Ytniobbepliknmaa.V
/- From the reading of arguments to typed data, and from a contract to a row; no condition. -/
namespace Go.Proofs.Ytniobbepliknmaa.V
open Go Go.ChangeShapes Go.RowKit
set_option linter.unusedVariables false

/-- the whole memory as one heap -/
def phOf (w : World) : PH := fun k => w.heap[k]?
theorem sat_phOf (w : World) : Sat [phOf w] w := ⟨by intro h hh; simp at hh; subst hh; exact fun _ _ e => e, by simp⟩

theorem bulk_mem {H : Type} {d : DataW H} {l : List (DataW H)} (h : d ∈ l) : Rows.uptoBulk d ≤ Rows.uptoBulkAll l := by
  induction l with
  | nil => cases h
  | cons x r ih =>
    simp only [Rows.uptoBulkAll]
    cases List.mem_cons.1 h with
    | inl e => subst e; omega
    | inr e => have := ih e; omega

/-- how much there is of it -/
class Meas (α : Type) where
  meas : α → Nat
open Meas (meas)
def measL {α : Type} [Meas α] : List α → Nat
  | [] => 0
  | x :: r => meas x + measL r
instance : Meas Int := ⟨fun _ => 1⟩
instance : Meas Bool := ⟨fun _ => 1⟩
instance : Meas ByteArray := ⟨fun s => s.size + 1⟩
instance {α : Type} [Meas α] : Meas (List α) := ⟨fun l => measL l + 1⟩

/-- what is read as of type t is an α -/
def Reads (P : Program) (α : Type) [Rep α] [Meas α] (t : TypeId) : Prop :=
  ∀ (H : Type) (enc : TypeId × Value → H) (w : World) (fuel : Nat) (cs : List Value) (x : DataW H × List MemPlace),
    DataW.trod enc P w 0 (fun _ => true) true fuel t cs = some x → Rows.uptoBulk x.1 ≤ 1048576 → ∃ a : α, Rep.ok (lk [phOf w]) a cs ∧ meas a ≤ Rows.uptoBulk x.1

theorem wf_i64 {n : Int} (h : (Lit.int .i64 n).wf = true) : -9223372036854775808 ≤ n ∧ n ≤ 9223372036854775807 := by
  simpa [Lit.wf, IntKind.min, IntKind.max, IntKind.signed, IntKind.bits] using h

theorem reads_bool {P : Program} {t : TypeId} (ht : P.underlying t = some .bool) : Reads P Bool t := by
  intro H enc w fuel cs x hx _
  obtain ⟨b, rfl, rfl⟩ := DataW.trod_bool ht hx
  exact ⟨b, rfl, by simp [meas, Rows.uptoBulk]⟩
theorem reads_int {P : Program} {t : TypeId} (ht : P.underlying t = some (.int .i64)) : Reads P Int t := by
  intro H enc w fuel cs x hx _
  obtain ⟨n, rfl, rfl, hw⟩ := DataW.trod_int ht hx
  exact ⟨n, rfl, by simp [meas, Rows.uptoBulk]⟩
theorem reads_string {P : Program} {t : TypeId} (ht : P.underlying t = some .string) : Reads P ByteArray t := by
  intro H enc w fuel cs x hx _
  obtain ⟨n, rfl, rfl, hw⟩ := DataW.trod_string ht hx
  exact ⟨n, rfl, by show n.size + 1 ≤ _; simp only [Rows.uptoBulk, Array.length_toList]; exact Nat.le_refl _⟩

theorem exists_list {α : Type} (p : Nat → α → Prop) : ∀ n, (∀ i, i < n → ∃ a, p i a) → ∃ l : List α, l.length = n ∧ ∀ i a, l[i]? = some a → p i a
  | 0, _ => ⟨[], rfl, by simp⟩
  | n + 1, h => by
    obtain ⟨l, hl, hp⟩ := exists_list p n (fun i hi => h i (by omega))
    obtain ⟨a, ha⟩ := h n (by omega)
    refine ⟨l ++ [a], by simp [hl], fun i b hb => ?_⟩
    by_cases hi : i < n
    · rw [List.getElem?_append_left (by omega)] at hb
      exact hp i b hb
    · have : i = n := by
        have := (List.getElem?_eq_some_iff.1 hb).1
        simp at this
        omega
      subst this
      rw [List.getElem?_append_right (by omega), hl] at hb
      simp at hb
      subst hb
      exact ha
theorem measL_le {α H : Type} [Meas α] : ∀ (l : List α) (ys : List (DataW H)), l.length = ys.length → (∀ (i : Nat) (a : α) (y : DataW H), l[i]? = some a → ys[i]? = some y → meas a ≤ Rows.uptoBulk y) → measL l ≤ Rows.uptoBulkAll ys
  | [], _, _, _ => by simp [measL]
  | a :: l, [], h, _ => by simp at h
  | a :: l, y :: ys, h, k => by
    have h1 := measL_le l ys (by simpa using h) (fun i b z hb hz => k (i + 1) b z (by simpa using hb) (by simpa using hz))
    have h2 := k 0 a y rfl rfl
    simp only [measL, Rows.uptoBulkAll]
    omega
theorem one_le_bulk {H : Type} (d : DataW H) : 1 ≤ Rows.uptoBulk d := by
  cases d with
  | lit l => cases l <;> simp [Rows.uptoBulk]
  | _ => simp [Rows.uptoBulk]
theorem len_le_bulk {H : Type} : ∀ (l : List (DataW H)), l.length ≤ Rows.uptoBulkAll l
  | [] => by simp
  | x :: r => by have := one_le_bulk x; have := len_le_bulk r; simp only [Rows.uptoBulkAll, List.length_cons]; omega

theorem reads_list {P : Program} {t e : TypeId} {α : Type} [Rep α] [Meas α] (ht : P.underlying t = some (.slice e)) (hc : P.cellsOf e = Rep.sz α) (hpos : 0 < Rep.sz α) (he : Reads P α e) : Reads P (List α) t := by
  intro H enc w fuel cs x hx hbulk
  rcases DataW.trod_slice ht hx with ⟨rfl, rfl⟩ | ⟨a, len, cap, elems, rest, n, _, rfl, rfl, hb, hl, hm, hlen, hel, hsp, hns⟩
  · exact ⟨[], ⟨none, 0, rfl, by simp, by simp, by simp, .inl rfl⟩, by simp [meas, measL, Rows.uptoBulk]⟩
  simp only [Rows.uptoBulk] at hbulk
  have key : ∀ i, i < len → ∃ a' : α, ∃ y cs', elems[i]? = some y ∧ w.cells? 0 (a.add (i * P.cellsOf e)) (P.cellsOf e) = some cs' ∧ Rep.ok (lk [phOf w]) a' cs' ∧ meas a' ≤ Rows.uptoBulk y.1 := by
    intro i hi
    have h1 := hel i hi
    rw [List.getElem?_eq_getElem (by omega), Option.bind_eq_some_iff] at h1
    obtain ⟨cs', hcs, hy⟩ := h1
    obtain ⟨a', h2, h3⟩ := he H enc w n cs' _ hy (by
      have : Rows.uptoBulk (elems[i]'(by omega)).1 ≤ Rows.uptoBulkAll (elems.map (·.1)) := bulk_mem (List.mem_map.2 ⟨_, List.getElem_mem _, rfl⟩)
      omega)
    exact ⟨a', _, cs', List.getElem?_eq_getElem (by omega), hcs, h2, h3⟩
  obtain ⟨xs, hxl, hxs⟩ := exists_list _ len key
  have hle := len_le_bulk (elems.map (·.1))
  simp only [List.length_map] at hle
  refine ⟨xs, ⟨some a, cap, by rw [hxl], by omega, hm, by omega, ?_⟩, ?_⟩
  · by_cases h0 : len = 0
    · left
      exact List.eq_nil_of_length_eq_zero (by omega)
    right
    obtain ⟨a0, y0, cs0, _, hcs0, _, _⟩ := key 0 (by omega)
    have hcell : w.cell? a ≠ none := by
      have h1 := (World.cells?_some hcs0).2.2 0 (by omega)
      have h2 := (World.cells?_some hcs0).2.1
      simp only [Nat.zero_mul, Addr.add, if_true] at h1
      rw [h1, List.getElem?_eq_getElem (by omega)]
      simp
    obtain ⟨b, o, sp⟩ := a
    simp only [World.cell?] at hcell
    split at hcell
    · rename_i c T fr hheap
      cases sp with
      | some s => simp at hcell
      | none =>
        refine ⟨b, o, c, T, fr, rfl, lk_one.2 hheap, fun i x hi => ?_⟩
        obtain ⟨y, cs', _, hcs, hok, _⟩ := hxs i x hi
        refine ⟨cs', hok, fun j hj => ?_⟩
        have h1 := (World.cells?_some hcs).2.2 j (by omega)
        rw [← h1, hc]
        have e : ((⟨b, o, none⟩ : Addr).add (i * Rep.sz α)).add j = ⟨b, o + i * Rep.sz α + j, none⟩ := by
          unfold Addr.add
          split <;> split <;> simp_all
        rw [e]
        simp [World.cell?, hheap]
    · exact absurd rfl hcell
  · have : measL xs ≤ Rows.uptoBulkAll (elems.map (·.1)) := measL_le _ _ (by simp; omega) (fun i a' y h1 h2 => by
      obtain ⟨z, _, hz, _, _, hm⟩ := hxs i a' h1
      rw [List.getElem?_map, hz] at h2
      simp at h2
      subst h2
      exact hm)
    simp only [meas, Rows.uptoBulk]
    omega

/-- how an argument of basic kind or a slice is handed over: one cell -/
theorem reads_arg {P : Program} {t : TypeId} {α : Type} [Rep α] [Meas α] (h : Reads P α t) {H : Type} {enc : TypeId × Value → H} {w : World} {v : Value} {d : DataW H} {p : List MemPlace}
    (hd : DataW.Trod enc P w 0 (fun _ => true) true t v d p) (hb : Rows.uptoBulk d ≤ 1048576) : ∃ a : α, Rep.ok (lk [phOf w]) a v.cells.toList ∧ meas a ≤ Rows.uptoBulk d := by
  obtain ⟨fuel, hf⟩ := hd
  exact h H enc w fuel _ _ hf hb

theorem arg_int {P : Program} {t : TypeId} (ht : P.underlying t = some (.int .i64)) {r : Reach} {b0 : Nat} {w : World} {v : Value} {H : Type} {enc : TypeId × Value → H} {d : DataW H} {p : List MemPlace}
    (hval : Value.okWide P w r b0 t v) (hd : DataW.Trod enc P w 0 (fun _ => true) true t v d p) : ∃ n : Int, v = .int .i64 n ∧ -9223372036854775808 ≤ n ∧ n ≤ 9223372036854775807 := by
  obtain ⟨n, rfl, _, _, hw⟩ := open_int ht hval hd
  exact ⟨n, rfl, wf_i64 hw⟩
theorem arg_list {P : Program} {t e : TypeId} {α : Type} [Rep α] [Meas α] (ht : P.underlying t = some (.slice e)) (hr : Reads P (List α) t) {r : Reach} {b0 : Nat} {w : World} {v : Value} {H : Type} {enc : TypeId × Value → H} {d : DataW H} {p : List MemPlace}
    (hval : Value.okWide P w r b0 t v) (hd : DataW.Trod enc P w 0 (fun _ => true) true t v d p) (hb : Rows.uptoBulk d ≤ 1048576) :
    ∃ (xs : List α) (A : Option Addr) (c : Nat), v = .slice A xs.length c ∧ SlOk (lk [phOf w]) A c xs ∧ meas xs ≤ Rows.uptoBulk d := by
  obtain ⟨xs, ⟨A, c, he, hs⟩, hm⟩ := reads_arg hr hd hb
  refine ⟨xs, A, c, ?_, hs, hm⟩
  simp only [Value.okWide, ht, Cell.okWide, Cell.ok] at hval
  cases v <;> simp_all [Value.cells]
theorem arg_string {P : Program} {t : TypeId} (ht : P.underlying t = some .string) {r : Reach} {b0 : Nat} {w : World} {v : Value} {H : Type} {enc : TypeId × Value → H} {d : DataW H} {p : List MemPlace}
    (hval : Value.okWide P w r b0 t v) (hd : DataW.Trod enc P w 0 (fun _ => true) true t v d p) (hb : Rows.uptoBulk d ≤ 1048576) :
    ∃ s : ByteArray, v = .string s ∧ meas s ≤ Rows.uptoBulk d := by
  obtain ⟨s, he, hm⟩ := reads_arg (reads_string ht) hd hb
  have he : v.cells.toList = [.string s] := he
  refine ⟨s, ?_, hm⟩
  simp only [Value.okWide, ht, Cell.okWide, Cell.ok] at hval
  cases v <;> simp_all [Value.cells]
theorem arg_agg {P : Program} {t : TypeId} {fs : Array Field} {α : Type} [Rep α] [Meas α] (ht : P.underlying t = some (.struct fs)) (hr : Reads P α t) {r : Reach} {b0 : Nat} {w : World} {v : Value} {H : Type} {enc : TypeId × Value → H} {d : DataW H} {p : List MemPlace}
    (hval : Value.okWide P w r b0 t v) (hd : DataW.Trod enc P w 0 (fun _ => true) true t v d p) (hb : Rows.uptoBulk d ≤ 1048576) :
    ∃ (x : α) (cs : List Value), v = .agg cs.toArray ∧ Rep.ok (lk [phOf w]) x cs ∧ meas x ≤ Rows.uptoBulk d := by
  obtain ⟨x, hx, hm⟩ := reads_arg hr hd hb
  simp only [Value.okWide, ht] at hval
  obtain ⟨cs, rfl, _, _⟩ := hval
  exact ⟨x, cs.toList, by simp, by simpa [Value.cells] using hx, hm⟩

/-- the arguments read, after it, as they did -/
theorem trodAll_below {H : Type} {enc : TypeId × Value → H} {P : Program} (hl : laidOutB P = true) {W W' : World} (hb : Below W.heap.size W W') (sp : Nat → Bool) :
    ∀ (ts : List TypeId) (vs : List Value) (ds : List (DataW H)) (ps : List MemPlace), (∀ t ∈ ts, P.readableRec t = true ∧ t < P.types.size) → (∀ x ∈ ps, x.block < W.heap.size) → (∀ x ∈ ps, sp x.block = true) →
      DataW.TrodAll enc P W 0 (fun _ => true) true ts vs ds ps → DataW.TrodAll enc P W' 0 sp true ts vs ds ps
  | [], [], [], ps, _, _, _, h => h
  | t :: ts, v :: vs, d :: ds, ps, ht, hp, hs, ⟨p, q, h1, h2, e⟩ => by
    subst e
    exact ⟨p, q, WideElems.Trod_stays hl (ht t (by simp)).1 (ht t (by simp)).2 h1 (fun x hx => hb.same (hp x (by simp [hx]))) (fun x hx => hs x (by simp [hx])),
      trodAll_below hl hb sp ts vs ds q (fun u hu => ht u (by simp [hu])) (fun x hx => hp x (by simp [hx])) (fun x hx => hs x (by simp [hx])) h2, rfl⟩
  | [], [], _ :: _, _, _, _, _, h => h.elim
  | [], _ :: _, _, _, _, _, _, h => by cases h
  | _ :: _, [], _, _, _, _, _, h => by cases h
  | _ :: _, _ :: _, [], _, _, _, _, h => by cases h

theorem below_of_done {w w' : World} {Γ' : Ctx} (h : Done [phOf w] [] Γ' w w') : Below w.heap.size w w' :=
  ⟨h.os, h.tape, h.output, h.size, fun k hk => h.same k hk (by simp)⟩

theorem trodAll_len {H : Type} {enc : TypeId × Value → H} {P : Program} {w : World} {sp : Nat → Bool} : ∀ (ts : List TypeId) (vs : List Value) (ds : List (DataW H)) (ps : List MemPlace),
    DataW.TrodAll enc P w 0 sp true ts vs ds ps → ds.length = ts.length
  | [], [], [], ps, h => rfl
  | t :: ts, v :: vs, d :: ds, ps, ⟨p, q, h1, h2, e⟩ => by simp [trodAll_len ts vs ds q h2]
  | [], [], _ :: _, _, h => h.elim
  | [], _ :: _, _, _, h => by cases h
  | _ :: _, [], _, _, h => by cases h
  | _ :: _, _ :: _, [], _, h => by cases h

/-- A LAW's CONTRACT: called where the arguments so read, it answers true and makes only new memory. -/
theorem law_contract {P : Program} {f : FuncId} {fn : Func} {s : ChangeSpec} (hl : laidOutB P = true) (hvars : s.vars = [])
    (hs : ∀ (H : Type) (ds : List (DataW H)), ds.length = fn.params.toList.length → s.fn H ds = { results := [.lit (.bool true)], args := ds })
    (hts : ∀ t ∈ fn.params.toList, P.readableRec t = true ∧ t < P.types.size) {tb : TypeId} (hres : fn.resultTypes = #[tb]) (htb : P.underlying tb = some .bool)
    {H : Type} {enc : TypeId × Value → H} {W : World} {args : Array Value} {ds gs : List (DataW H)} {before : List MemPlace} {apart fresh handsOn again : Bool}
    (hW : DataW.Whole enc P fn.params.toList s.vars apart W args.toList ds gs before)
    (hr : Ret P f args.toList [phOf W] [] (fun v Γ => Γ = [] ∧ v = .bool true)) :
    Calls P f args W fun e W' => ∃ v, e = .returned v ∧ s.post enc P fn apart fresh handsOn again W args v W' := by
  have hlt := hW.lt
  have hW' := hW
  obtain ⟨p, q, hA, hV, hpq, hfz, hnd⟩ := hW
  rw [hvars] at hV
  obtain ⟨rfl, rfl⟩ := trodVars_none hV
  have hlen := trodAll_len _ _ _ _ hA
  have hsp := hs H ds hlen
  have hbef : before = p := by simp [hpq]
  subst hbef
  have hc := hr.calls W (by simpa using sat_phOf W)
  refine hc.mono fun e W' ⟨v, Γ', he, ⟨hΓ, hv⟩, hd⟩ => ?_
  subst he hv hΓ
  have hb := below_of_done hd
  have r1 : ∀ (b : Nat) (sp : Nat → Bool) (hd : Bool), DataW.TrodAll enc P W' b sp hd fn.resultTypes.toList ((Value.bool true).resultList fn.resultTypes.size) (s.fn H (ds ++ [])).results [] := by
    intro b sp hd
    rw [List.append_nil, hsp, hres]
    exact trodAll_cons_mk (shut_bool htb _) trodAll_mk0
  have r2 : ∀ sp : Nat → Bool, (∀ p ∈ before, sp p.block = true) → DataW.TrodAll enc P W' 0 sp true fn.params.toList args.toList (s.fn H (ds ++ [])).args before := by
    intro sp hh
    rw [List.append_nil, hsp]
    exact trodAll_below hl hb sp _ _ _ _ hts (fun x hx => hlt x hx) hh hA
  have r3 : ∀ sp : Nat → Bool, DataW.TrodVars enc P W' sp s.vars (s.fn H (ds ++ [])).vars [] := by
    intro sp
    rw [List.append_nil, hsp, hvars]
    rfl
  refine ⟨_, rfl, ds, [], before, [], before, [], hW', r1 _ _ _, r2 _ (fun p hp => by simpa using hlt p hp), r3 _, World.keptBut_mono (fun p hp => ⟨hp, Or.inr (Or.inl hp)⟩) (hb.frame (· ∈ before)), fun _ => ?_⟩
  refine ⟨ok_one (by rw [hres]) rfl (okWide_bool_mk htb _), _, _, ([] ++ before) ++ [], ⟨[] ++ before, [], trodAll_append (r2 _ (fun _ _ => rfl)) (r1 _ _ _), r3 _, rfl, ?_, ?_⟩, ?_⟩
  · intro b off hp
    have hp' : MemPlace.cell b off ∈ before := by simpa using hp
    rw [hb.frozen (hlt _ hp')]
    exact hfz b off hp'
  · intro ha
    simpa using hnd ha
  · intro p hp _
    simpa using hp
end Go.Proofs.Ytniobbepliknmaa.V
