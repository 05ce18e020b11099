/- Lengths of words: the plain law; no condition. -/
import Derived.Test.YtniobbepliknmaaPlens
namespace Go.Proofs.Ytniobbepliknmaa.V
open Go
set_option linter.unusedVariables false
set_option linter.unusedSimpArgs false

/-- a grammar that is accepted -/
structure VG (g : Gr) : Prop where
  ts : 1 ≤ g.ts ∧ g.ts ≤ 8
  ns : 1 ≤ g.ns ∧ g.ns ≤ 10
  st : 0 ≤ g.st ∧ g.st < g.ns
  len : g.rs.length ≤ 32
  left : ∀ r ∈ g.rs, 0 ≤ r.l ∧ r.l < g.ns
  right : ∀ r ∈ g.rs, r.r.length ≤ 4
  sym : ∀ r ∈ g.rs, ∀ s ∈ r.r, 0 ≤ s.n ∧ (s.t = true → s.n < g.ts) ∧ (s.t = false → s.n < g.ns)
theorem ckF_ok {g : Gr} (h : ckF g = 0) : VG g := by
  unfold ckF at h
  split at h
  · cases h
  rename_i hb
  split at h
  · cases h
  rename_i h32
  unfold badHead at hb
  have hf : ∀ k (hk : k < g.rs.length), faultAt g k g.rs[k] = 0 := by
    intro k hk
    have h0 : ∀ m, m ≤ g.rs.length → ckR g m = 0 := by
      intro m hm
      apply Classical.byContradiction
      intro hn
      exact hn (by rw [← ckR_stays hn hm, h])
    rw [← ckR_step hk (h0 k (by omega))]
    exact h0 (k + 1) hk
  have hr : ∀ r ∈ g.rs, (0 ≤ r.l ∧ r.l < g.ns) ∧ r.r.length ≤ 4 ∧ ∀ s ∈ r.r, badSy g.ts g.ns s = false := by
    intro r hr
    obtain ⟨k, hk, rfl⟩ := List.getElem_of_mem hr
    have h1 := hf k hk
    unfold faultAt at h1
    split at h1
    · cases h1
    split at h1
    · cases h1
    split at h1
    · cases h1
    rename_i q1 q2 q3
    refine ⟨by omega, by omega, fun s hs => ?_⟩
    cases hb : badSy g.ts g.ns s with
    | false => rfl
    | true => exact absurd (List.any_eq_true.2 ⟨s, hs, hb⟩) q3
  refine ⟨by omega, by omega, by omega, by omega, fun r h => (hr r h).1, fun r h => (hr r h).2.1, fun r h s hs => ?_⟩
  have := (hr r h).2.2 s hs
  simp only [badSy, Bool.or_eq_false_iff, Bool.and_eq_false_iff, decide_eq_false_iff_not, Bool.not_eq_false'] at this
  obtain ⟨⟨h1, h2⟩, h3⟩ := this
  refine ⟨by omega, fun ht => ?_, fun ht => ?_⟩
  · rw [ht] at h2; simp at h2; exact h2
  · rw [ht] at h3; simp at h3; exact h3

/-- the lengths of words -/
inductive LenD (g : Gr) : List Sy → Nat → Prop
  | nil : LenD g [] 0
  | term {n : Int} {l : List Sy} {k : Nat} : LenD g l k → LenD g (⟨true, n⟩ :: l) (1 + k)
  | non {a : Int} {l : List Sy} {r : Ru} {j k : Nat} : r ∈ g.rs → r.l = a → LenD g r.r j → LenD g l k → LenD g (⟨false, a⟩ :: l) (j + k)
def HasD (g : Gr) (a : Int) (k : Nat) : Prop := ∃ r ∈ g.rs, r.l = a ∧ LenD g r.r k
/-- what is told is so -/
def SoundL (g : Gr) (rows : List (List Bool)) : Prop := ∀ (a k : Nat), (rows.getD a []).getD k false = true → HasD g a k
theorem sum_sound {g : Gr} {rows : List (List Bool)} (h : SoundL g rows) : ∀ {l : List Sy} {m : Nat}, (∀ s ∈ l, 0 ≤ s.n) → SumP rows l m → LenD g l m
  | [], m, _, h => by simp only [SumP] at h; subst h; exact .nil
  | ⟨t, a⟩ :: l, m, h0, hs => by
    obtain ⟨j, h1, h2, h3⟩ := hs
    have ih := sum_sound h (fun s hs => h0 s (by simp [hs])) h3
    cases t with
    | true =>
      simp [oneL] at h2
      subst h2
      rw [show m = 1 + (m - 1) by omega]
      exact .term ih
    | false =>
      simp only [oneL, Bool.false_eq_true, if_false] at h2
      obtain ⟨r, hr, hl, hd⟩ := h _ _ h2
      have ha := h0 ⟨false, a⟩ (by simp)
      rw [show m = j + (m - j) by omega]
      exact .non hr (by rw [hl]; simp only at ha; omega) hd ih
/-- all that follows is told -/
def ClosedL (g : Gr) (n : Nat) (rows : List (List Bool)) : Prop := ∀ r ∈ g.rs, ∀ k, k ≤ n → SumP rows r.r k → (rows.getD r.l.toNat []).getD k false = true
theorem len_told {g : Gr} {n : Nat} {rows : List (List Bool)} (h : ClosedL g n rows) {l : List Sy} {m : Nat} (hd : LenD g l m) : m ≤ n → SumP rows l m := by
  induction hd with
  | nil => intro _; rfl
  | @term n' l k _ ih => intro hm; exact ⟨1, by omega, by simp [oneL], by rw [show 1 + k - 1 = k by omega]; exact ih (by omega)⟩
  | @non a l r j k hr ha _ _ ih1 ih2 =>
    intro hm
    refine ⟨j, by omega, ?_, by rw [show j + k - j = k by omega]; exact ih2 (by omega)⟩
    have := h r hr j (by omega) (ih1 (by omega))
    simp only [oneL, Bool.false_eq_true, if_false]
    rw [← ha]
    exact this
theorem told_iff {g : Gr} {n : Nat} {rows : List (List Bool)} (hs : SoundL g rows) (hc : ClosedL g n rows) {a : Nat} {k : Nat} (hk : k ≤ n) : (rows.getD a []).getD k false = true ↔ HasD g a k := by
  refine ⟨hs a k, ?_⟩
  rintro ⟨r, hr, ha, hd⟩
  have := hc r hr k hk (len_told hc hd hk)
  rw [ha] at this
  simpa using this
/-- how much is told -/
def cntL (rows : List (List Bool)) : Nat := (rows.map (List.count true)).sum
theorem cntL_le : ∀ {rows : List (List Bool)} {m : Nat}, (∀ x ∈ rows, x.length = m) → cntL rows ≤ rows.length * m
  | [], m, _ => by simp [cntL]
  | x :: l, m, h => by
    have h1 := cntL_le (rows := l) (m := m) fun y hy => h y (by simp [hy])
    have h2 : x.count true ≤ m := by rw [← h x (by simp)]; exact List.count_le_length
    simp only [cntL, List.map_cons, List.sum_cons, List.length_cons, Nat.add_mul, Nat.one_mul] at h1 ⊢
    omega
theorem count_set : ∀ {x : List Bool} {k : Nat} (hk : k < x.length), x[k] = false → (x.set k true).count true = x.count true + 1
  | a :: x, 0, _, h => by simp at h; subst h; simp
  | a :: x, k + 1, hk, h => by
    have := count_set (x := x) (k := k) (by simpa using hk) (by simpa using h)
    simp only [List.set_cons_succ, List.count_cons, this]
    omega
theorem cntL_set : ∀ {rows : List (List Bool)} {a : Nat} (ha : a < rows.length) {y : List Bool}, y.count true = rows[a].count true + 1 → cntL (rows.set a y) = cntL rows + 1
  | x :: l, 0, _, y, h => by simp [cntL] at h ⊢; omega
  | x :: l, a + 1, ha, y, h => by
    have := cntL_set (rows := l) (a := a) (by simpa using ha) (by simpa using h)
    simp [cntL] at this ⊢
    omega
theorem sound_set {g : Gr} {rows : List (List Bool)} (h : SoundL g rows) {a k : Nat} (ha : a < rows.length) (hd : HasD g a k) : SoundL g (rows.set a (rows[a].set k true)) := by
  intro b j hb
  by_cases e : b = a
  · subst e
    by_cases e' : j = k
    · subst e'; exact hd
    · refine h b j ?_
      have e'' : ¬ k = j := fun q => e' q.symm
      simpa [List.getD_eq_getElem?_getD, ha, List.getElem?_set, e''] using hb
  · refine h b j ?_
    have e'' : ¬ a = b := fun q => e q.symm
    simpa [List.getD_eq_getElem?_getD, List.getElem?_set, e''] using hb
theorem rep_false (g : Gr) (a n : Nat) : SoundL g (List.replicate a (List.replicate n false)) := by
  intro b k h
  simp only [List.getD_eq_getElem?_getD, List.getElem?_replicate] at h
  split at h
  · simp only [Option.getD_some, List.getElem?_replicate] at h
    split at h <;> simp at h
  · simp at h
theorem cntL_zero (a n : Nat) : cntL (List.replicate a (List.replicate n false)) = 0 := by
  simp [cntL, List.map_replicate, List.count_replicate]
end Go.Proofs.Ytniobbepliknmaa.V
