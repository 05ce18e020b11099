/- Words made smaller: the plain law; no condition. -/
namespace Go.Proofs.Ytniobbepliknmaa.V
set_option linter.unusedVariables false
set_option linter.unusedSimpArgs false

/-- always the first element goes without which F stays true -/
def shr (F : List Int → Bool) : Nat → List Int → List Int
  | 0, w => w
  | n + 1, w => match (List.range w.length).find? (fun i => F (w.eraseIdx i)) with
    | some i => shr F n (w.eraseIdx i)
    | none => w
theorem shr_more (F : List Int → Bool) : ∀ (n m : Nat) (w : List Int), w.length ≤ n → w.length ≤ m → shr F n w = shr F m w
  | 0, 0, w, _, _ => rfl
  | 0, m + 1, w, h, _ => by
    have : w = [] := List.eq_nil_of_length_eq_zero (by omega)
    subst this
    rfl
  | n + 1, 0, w, _, h => by
    have : w = [] := List.eq_nil_of_length_eq_zero (by omega)
    subst this
    rfl
  | n + 1, m + 1, w, h1, h2 => by
    simp only [shr]
    cases hf : (List.range w.length).find? (fun i => F (w.eraseIdx i)) with
    | none => rfl
    | some i =>
      have hi : i < w.length := by
        have := List.mem_of_find?_eq_some hf
        simpa using this
      have : (w.eraseIdx i).length = w.length - 1 := by rw [List.length_eraseIdx, if_pos hi]
      exact shr_more F n m _ (by omega) (by omega)
theorem find_first {p : Nat → Bool} {n i : Nat} (hi : i < n) (h : p i = true) (hb : ∀ j, j < i → p j = false) : (List.range n).find? p = some i := by
  rw [List.find?_range_eq_some]
  exact ⟨h, by simpa using hi, by simpa using hb⟩
theorem find_no {p : Nat → Bool} {n : Nat} (hb : ∀ j, j < n → p j = false) : (List.range n).find? p = none := by
  rw [List.find?_range_eq_none]
  simpa using hb
theorem shr_step {F : List Int → Bool} {w : List Int} {i : Nat} (hi : i < w.length) (h : F (w.eraseIdx i) = true) (hb : ∀ j, j < i → F (w.eraseIdx j) = false) : shr F w.length w = shr F (w.eraseIdx i).length (w.eraseIdx i) := by
  obtain ⟨n, hn⟩ : ∃ n, w.length = n + 1 := ⟨w.length - 1, by omega⟩
  have hl : (w.eraseIdx i).length = n := by rw [List.length_eraseIdx, if_pos hi]; omega
  have := find_first (p := fun i => F (w.eraseIdx i)) hi h hb
  rw [hl, hn]
  simp only [shr, this]
theorem shr_end {F : List Int → Bool} {w : List Int} (hb : ∀ j, j < w.length → F (w.eraseIdx j) = false) : shr F w.length w = w := by
  cases hn : w.length with
  | zero => rfl
  | succ n =>
    have := find_no (p := fun i => F (w.eraseIdx i)) hb
    simp only [shr, this]

/-- the places and values that are tried, in order -/
def tries (w : List Int) : List (Nat × Nat) := (List.range w.length).flatMap fun i => (List.range (w.getD i 0).toNat).map fun x => (i, x)
def low (F : List Int → Bool) : Nat → List Int → List Int
  | 0, w => w
  | n + 1, w => match (tries w).find? (fun p => F (w.set p.1 p.2)) with
    | some p => low F n (w.set p.1 p.2)
    | none => w
def wsum (w : List Int) : Nat := (w.map Int.toNat).sum
theorem wsum_set : ∀ (w : List Int) (i : Nat) (x : Nat), i < w.length → x < (w.getD i 0).toNat → wsum (w.set i x) + (w.getD i 0).toNat = wsum w + x
  | [], i, x, h, _ => by simp at h
  | a :: w, 0, x, _, hx => by simp [wsum] at hx ⊢; omega
  | a :: w, i + 1, x, h, hx => by
    have := wsum_set w i x (by simpa using h) (by simpa using hx)
    simp [wsum] at this hx ⊢
    omega
theorem mem_tries {w : List Int} {p : Nat × Nat} : p ∈ tries w ↔ p.1 < w.length ∧ p.2 < (w.getD p.1 0).toNat := by
  obtain ⟨i, x⟩ := p
  simp only [tries, List.mem_flatMap, List.mem_range, List.mem_map, Prod.mk.injEq]
  constructor
  · rintro ⟨j, hj, y, hy, rfl, rfl⟩; exact ⟨hj, hy⟩
  · rintro ⟨hi, hx⟩; exact ⟨i, hi, x, hx, rfl, rfl⟩
theorem low_more (F : List Int → Bool) : ∀ (n m : Nat) (w : List Int), wsum w ≤ n → wsum w ≤ m → low F n w = low F m w
  | 0, 0, w, _, _ => rfl
  | 0, m + 1, w, h, _ => by
    have : (tries w).find? (fun p => F (w.set p.1 p.2)) = none := by
      have hnil : tries w = [] := List.eq_nil_iff_forall_not_mem.2 fun p hp => by
        have h1 := mem_tries.1 hp
        have := wsum_set w p.1 p.2 h1.1 h1.2
        omega
      rw [hnil]; rfl
    simp only [low, this]
  | n + 1, 0, w, _, h => by
    have : (tries w).find? (fun p => F (w.set p.1 p.2)) = none := by
      have hnil : tries w = [] := List.eq_nil_iff_forall_not_mem.2 fun p hp => by
        have h1 := mem_tries.1 hp
        have := wsum_set w p.1 p.2 h1.1 h1.2
        omega
      rw [hnil]; rfl
    simp only [low, this]
  | n + 1, m + 1, w, h1, h2 => by
    simp only [low]
    cases hf : (tries w).find? (fun p => F (w.set p.1 p.2)) with
    | none => rfl
    | some p =>
      have h3 := mem_tries.1 (List.mem_of_find?_eq_some hf)
      have := wsum_set w p.1 p.2 h3.1 h3.2
      exact low_more F n m _ (by omega) (by omega)
theorem find_tries {w : List Int} {q : Nat × Nat → Bool} {i x : Nat} (hi : i < w.length) (hx : x < (w.getD i 0).toNat) (h : q (i, x) = true)
    (hb : ∀ j, j < i → ∀ y, y < (w.getD j 0).toNat → q (j, y) = false) (hb' : ∀ y, y < x → q (i, y) = false) : (tries w).find? q = some (i, x) := by
  unfold tries
  have hsplit : List.range w.length = List.range i ++ i :: (List.range (w.length - (i + 1))).map (fun k => k + (i + 1)) := by
    apply List.ext_getElem?
    intro k
    rcases Nat.lt_trichotomy k i with q1 | q1 | q1
    · rw [List.getElem?_append_left (by simpa using q1), List.getElem?_range (by omega), List.getElem?_range q1]
    · subst q1
      rw [List.getElem?_append_right (by simp), List.getElem?_range (by omega)]
      simp
    · obtain ⟨d, rfl⟩ : ∃ d, k = d + (i + 1) := ⟨k - (i + 1), by omega⟩
      rw [List.getElem?_append_right (by simp; omega)]
      simp only [List.length_range, show d + (i + 1) - i = d + 1 by omega, List.getElem?_cons_succ, List.getElem?_map]
      by_cases hk : d + (i + 1) < w.length
      · rw [List.getElem?_range hk, List.getElem?_range (by omega)]; simp
      · rw [List.getElem?_eq_none (by simp; omega), List.getElem?_eq_none (by simp; omega)]; rfl
  rw [hsplit, List.flatMap_append, List.find?_append]
  have h1 : ((List.range i).flatMap fun i => (List.range (w.getD i 0).toNat).map fun x => (i, x)).find? q = none := by
    rw [List.find?_eq_none]
    intro p hp
    simp only [List.mem_flatMap, List.mem_range, List.mem_map] at hp
    obtain ⟨j, hj, y, hy, rfl⟩ := hp
    simp [hb j hj y hy]
  rw [h1, Option.none_or, List.flatMap_cons, List.find?_append, List.find?_map]
  have h2 : (List.range (w.getD i 0).toNat).find? (q ∘ fun x => (i, x)) = some x := find_first hx (by simpa using h) (fun y hy => by simpa using hb' y hy)
  rw [h2]
  rfl
theorem low_step {F : List Int → Bool} {w : List Int} {i x : Nat} (hi : i < w.length) (hx : x < (w.getD i 0).toNat) (h : F (w.set i x) = true)
    (hb : ∀ j, j < i → ∀ y, y < (w.getD j 0).toNat → F (w.set j y) = false) (hb' : ∀ y, y < x → F (w.set i y) = false) : low F (wsum w) w = low F (wsum (w.set i x)) (w.set i x) := by
  have hs := wsum_set w i x hi hx
  obtain ⟨n, hn⟩ : ∃ n, wsum w = n + 1 := ⟨wsum w - 1, by omega⟩
  have hf := find_tries (q := fun p => F (w.set p.1 p.2)) hi hx h hb hb'
  rw [hn]
  simp only [low, hf]
  exact low_more F _ _ _ (by omega) (Nat.le_refl _)
theorem low_end {F : List Int → Bool} {w : List Int} (hb : ∀ j, j < w.length → ∀ y, y < (w.getD j 0).toNat → F (w.set j y) = false) : low F (wsum w) w = w := by
  have hf : (tries w).find? (fun p => F (w.set p.1 p.2)) = none := by
    rw [List.find?_eq_none]
    intro p hp
    have := mem_tries.1 hp
    simp [hb p.1 this.1 p.2 this.2]
  cases hn : wsum w with
  | zero => rfl
  | succ n => simp only [low, hf]
end Go.Proofs.Ytniobbepliknmaa.V
