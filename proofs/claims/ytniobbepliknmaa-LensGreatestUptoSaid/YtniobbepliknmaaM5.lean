/- Texts put together, in the order in which they build; each says what it proves; no condition. -/
import Derived.Test.YtniobbepliknmaaM4
import Derived.Test.YtniobbepliknmaaM2
import Derived.Test.YtniobbepliknmaaProg
/- The longest word: the plain law; no condition. -/
namespace Go.Proofs.Ytniobbepliknmaa.V
open Go
set_option linter.unusedVariables false
set_option linter.unusedSimpArgs false

/-- derivations with their size -/
inductive DerS (g : Gr) : List Sy → Nat → Nat → Prop
  | nil : DerS g [] 0 0
  | term {x : Int} {l : List Sy} {k n : Nat} : DerS g l k n → DerS g (⟨true, x⟩ :: l) (1 + k) n
  | non {a : Int} {l : List Sy} {r : Ru} {j k m n : Nat} : r ∈ g.rs → r.l = a → DerS g r.r j m → DerS g l k n → DerS g (⟨false, a⟩ :: l) (j + k) (m + 1 + n)
def TreeS (g : Gr) (a : Int) (k n : Nat) : Prop := ∃ r m, r ∈ g.rs ∧ r.l = a ∧ DerS g r.r k m ∧ n = m + 1
theorem DerS.len {g : Gr} {l : List Sy} {k n : Nat} (h : DerS g l k n) : LenD g l k := by
  induction h with
  | nil => exact .nil
  | term _ ih => exact .term ih
  | non hr ha _ _ ih1 ih2 => exact .non hr ha ih1 ih2
theorem LenD.sized {g : Gr} {l : List Sy} {k : Nat} (h : LenD g l k) : ∃ n, DerS g l k n := by
  induction h with
  | nil => exact ⟨_, .nil⟩
  | term _ ih => obtain ⟨n, h⟩ := ih; exact ⟨_, .term h⟩
  | non hr ha _ _ ih1 ih2 => obtain ⟨m, h1⟩ := ih1; obtain ⟨n, h2⟩ := ih2; exact ⟨_, .non hr ha h1 h2⟩
theorem TreeS.has {g : Gr} {a : Int} {k n : Nat} (h : TreeS g a k n) : HasD g a k := by
  obtain ⟨r, m, h1, h2, h3, _⟩ := h
  exact ⟨r, h1, h2, h3.len⟩
theorem HasD.sized {g : Gr} {a : Int} {k : Nat} (h : HasD g a k) : ∃ n, TreeS g a k n := by
  obtain ⟨r, h1, h2, h3⟩ := h
  obtain ⟨m, h3⟩ := h3.sized
  exact ⟨_, r, m, h1, h2, h3, rfl⟩
theorem TreeS.cons {g : Gr} {a : Int} {l : List Sy} {j k m n : Nat} (h : TreeS g a j m) (h2 : DerS g l k n) : DerS g (⟨false, a⟩ :: l) (j + k) (m + n) := by
  obtain ⟨r, m', h3, h4, h5, rfl⟩ := h
  exact .non h3 h4 h5 h2

/-- a rule whose nonterminals all have words -/
def Prd (g : Gr) (l : List Sy) : Prop := ∀ s ∈ l, s.t = false → ∃ k, HasD g s.n k
/-- a symbol that has a word that is not empty -/
def Big (g : Gr) (s : Sy) : Prop := s.t = true ∨ ∃ k, 0 < k ∧ HasD g s.n k
def Edge (g : Gr) (gr : Bool) (a b : Int) : Prop := ∃ r ∈ g.rs, r.l = a ∧ Prd g r.r ∧ ∃ i : Nat, r.r[i]? = some ⟨false, b⟩ ∧ (gr = true → ∃ (j : Nat) (x : Sy), j ≠ i ∧ r.r[j]? = some x ∧ Big g x)
inductive Wk (g : Gr) : Bool → Int → Int → Prop
  | refl (a : Int) : Wk g false a a
  | step {gr f : Bool} {a b c : Int} : Edge g gr a b → Wk g f b c → Wk g (gr || f) a c
def Endl (g : Gr) : Prop := ∃ a f, Wk g f g.st a ∧ Wk g true a a
theorem Wk.trans {g : Gr} {f f' : Bool} {a b c : Int} (h : Wk g f a b) (h' : Wk g f' b c) : Wk g (f || f') a c := by
  induction h with
  | refl a => simpa using h'
  | step e _ ih => rw [Bool.or_assoc]; exact .step e (ih h')
theorem Prd.has {g : Gr} : ∀ {l : List Sy}, Prd g l → ∃ k, LenD g l k
  | [], _ => ⟨0, .nil⟩
  | ⟨t, a⟩ :: l, h => by
    obtain ⟨k, hk⟩ := Prd.has (l := l) fun s hs => h s (by simp [hs])
    cases t with
    | true => exact ⟨_, .term hk⟩
    | false =>
      obtain ⟨j, r, hr, ha, hd⟩ := h ⟨false, a⟩ (by simp) rfl
      exact ⟨_, .non hr ha hd hk⟩
/-- a part is put in -/
theorem Prd.at' {g : Gr} : ∀ {l : List Sy} {i : Nat} {b : Int} {j : Nat}, Prd g l → l[i]? = some ⟨false, b⟩ → HasD g b j → ∃ c, LenD g l (j + c)
  | ⟨t, a⟩ :: l, 0, b, j, h, hi, hb => by
    obtain ⟨k, hk⟩ := Prd.has (l := l) fun s hs => h s (by simp [hs])
    simp at hi
    obtain ⟨rfl, rfl⟩ := hi
    obtain ⟨r, hr, ha, hd⟩ := hb
    exact ⟨k, .non hr ha hd hk⟩
  | ⟨t, a⟩ :: l, i + 1, b, j, h, hi, hb => by
    obtain ⟨c, hc⟩ := Prd.at' (l := l) (i := i) (fun s hs => h s (by simp [hs])) (by simpa using hi) hb
    cases t with
    | true => exact ⟨c + 1, by rw [show j + (c + 1) = 1 + (j + c) by omega]; exact .term hc⟩
    | false =>
      obtain ⟨k, r, hr, ha, hd⟩ := h ⟨false, a⟩ (by simp) rfl
      exact ⟨c + k, by rw [show j + (c + k) = k + (j + c) by omega]; exact .non hr ha hd hc⟩
theorem Prd.big {g : Gr} : ∀ {l : List Sy} {i : Nat} {x : Sy}, Prd g l → l[i]? = some x → Big g x → ∃ k, 0 < k ∧ LenD g l k
  | ⟨t, a⟩ :: l, 0, x, h, hi, hb => by
    obtain ⟨k, hk⟩ := Prd.has (l := l) fun s hs => h s (by simp [hs])
    simp at hi
    subst hi
    cases t with
    | true => exact ⟨_, by omega, .term hk⟩
    | false =>
      rcases hb with q | ⟨j, hj, r, hr, ha, hd⟩
      · cases q
      · exact ⟨j + k, by omega, .non hr ha hd hk⟩
  | ⟨t, a⟩ :: l, i + 1, x, h, hi, hb => by
    obtain ⟨c, h0, hc⟩ := Prd.big (l := l) (i := i) (fun s hs => h s (by simp [hs])) (by simpa using hi) hb
    cases t with
    | true => exact ⟨_, by omega, .term hc⟩
    | false =>
      obtain ⟨k, r, hr, ha, hd⟩ := h ⟨false, a⟩ (by simp) rfl
      exact ⟨k + c, by omega, .non hr ha hd hc⟩
theorem Prd.both {g : Gr} : ∀ {l : List Sy} {i m : Nat} {b : Int} {x : Sy} {j : Nat}, Prd g l → l[i]? = some ⟨false, b⟩ → HasD g b j → m ≠ i → l[m]? = some x → Big g x → ∃ c, 0 < c ∧ LenD g l (j + c)
  | ⟨t, a⟩ :: l, 0, 0, b, x, j, h, hi, hb, hm, hx, hB => absurd rfl hm
  | ⟨t, a⟩ :: l, 0, m + 1, b, x, j, h, hi, hb, hm, hx, hB => by
    obtain ⟨k, h0, hk⟩ := Prd.big (l := l) (fun s hs => h s (by simp [hs])) (by simpa using hx) hB
    simp at hi
    obtain ⟨rfl, rfl⟩ := hi
    obtain ⟨r, hr, ha, hd⟩ := hb
    exact ⟨k, h0, .non hr ha hd hk⟩
  | ⟨t, a⟩ :: l, i + 1, 0, b, x, j, h, hi, hb, hm, hx, hB => by
    obtain ⟨c, hc⟩ := Prd.at' (l := l) (i := i) (fun s hs => h s (by simp [hs])) (by simpa using hi) hb
    simp at hx
    subst hx
    cases t with
    | true => exact ⟨c + 1, by omega, by rw [show j + (c + 1) = 1 + (j + c) by omega]; exact .term hc⟩
    | false =>
      rcases hB with q | ⟨k, h0, r, hr, ha, hd⟩
      · cases q
      · exact ⟨c + k, by omega, by rw [show j + (c + k) = k + (j + c) by omega]; exact .non hr ha hd hc⟩
  | ⟨t, a⟩ :: l, i + 1, m + 1, b, x, j, h, hi, hb, hm, hx, hB => by
    obtain ⟨c, h0, hc⟩ := Prd.both (l := l) (i := i) (m := m) (fun s hs => h s (by simp [hs])) (by simpa using hi) hb (by omega) (by simpa using hx) hB
    cases t with
    | true => exact ⟨c + 1, by omega, by rw [show j + (c + 1) = 1 + (j + c) by omega]; exact .term hc⟩
    | false =>
      obtain ⟨k, r, hr, ha, hd⟩ := h ⟨false, a⟩ (by simp) rfl
      exact ⟨c + k, by omega, by rw [show j + (c + k) = k + (j + c) by omega]; exact .non hr ha hd hc⟩
theorem Wk.grow {g : Gr} {f : Bool} {a b : Int} (h : Wk g f a b) : ∀ {j : Nat}, HasD g b j → ∃ c, HasD g a (j + c) ∧ (f = true → 0 < c) := by
  induction h with
  | refl a => intro j h; exact ⟨0, h, by simp⟩
  | @step gr f a b c e _ ih =>
    intro j hj
    obtain ⟨c1, h1, h2⟩ := ih hj
    obtain ⟨r, hr, ha, hp, i, hi, hg⟩ := e
    cases gr with
    | false =>
      obtain ⟨c2, h3⟩ := hp.at' hi h1
      exact ⟨c1 + c2, ⟨r, hr, ha, by rw [← Nat.add_assoc]; exact h3⟩, by simp only [Bool.false_or]; intro q; have := h2 q; omega⟩
    | true =>
      obtain ⟨m, x, hm, hx, hB⟩ := hg rfl
      obtain ⟨c2, h0, h3⟩ := hp.both hi h1 hm hx hB
      exact ⟨c1 + c2, ⟨r, hr, ha, by rw [← Nat.add_assoc]; exact h3⟩, fun _ => by omega⟩
theorem Wk.prd {g : Gr} {a : Int} (h : Wk g true a a) : ∃ k, HasD g a k := by
  generalize hf : true = f at h
  generalize hb : a = b at h
  cases h with
  | refl => cases hf
  | step e _ =>
    obtain ⟨r, hr, ha, hp, _⟩ := e
    obtain ⟨k, hk⟩ := hp.has
    exact ⟨k, r, hr, ha, hk⟩
/-- there are infinitely many words -/
theorem endl_many {g : Gr} (h : Endl g) (N : Nat) : ∃ k, N < k ∧ HasD g g.st k := by
  obtain ⟨a, f, h1, h2⟩ := h
  have : ∃ k, N < k ∧ HasD g a k := by
    induction N with
    | zero =>
      obtain ⟨k, hk⟩ := h2.prd
      obtain ⟨c, h3, h4⟩ := h2.grow hk
      exact ⟨_, by have := h4 rfl; omega, h3⟩
    | succ N ih =>
      obtain ⟨k, h0, hk⟩ := ih
      obtain ⟨c, h3, h4⟩ := h2.grow hk
      exact ⟨_, by have := h4 rfl; omega, h3⟩
  obtain ⟨k, h0, hk⟩ := this
  obtain ⟨c, h3, _⟩ := h1.grow hk
  exact ⟨_, by omega, h3⟩

theorem least_nat {p : Nat → Prop} : ∀ n, p n → ∃ m, p m ∧ ∀ k, p k → m ≤ k := by
  intro n
  induction n using Nat.strongRecOn with
  | ind n ih =>
    intro h
    by_cases e : ∃ k, k < n ∧ p k
    · obtain ⟨k, h1, h2⟩ := e; exact ih k h1 h2
    · exact ⟨n, h, fun k hk => Nat.le_of_not_lt fun q => e ⟨k, q, hk⟩⟩
/-- names that are different, and below ns -/
structure Vs (g : Gr) (V : List Int) : Prop where
  nodup : V.Nodup
  rng : ∀ a ∈ V, 0 ≤ a ∧ a < g.ns
theorem Vs.len {g : Gr} {V : List Int} (h : Vs g V) : V.length ≤ g.ns.toNat := by
  have := nodup_bound g.ns.toNat (V.map Int.toNat) (by
    rw [List.Nodup, List.pairwise_map]
    exact List.Pairwise.imp_of_mem (fun {a b} ha hb hne e => hne (by have := h.rng a ha; have := h.rng b hb; omega)) h.nodup) (fun x hx => by
    obtain ⟨a, ha, rfl⟩ := List.mem_map.1 hx
    have := h.rng a ha
    omega)
  simpa using this
theorem Vs.cons {g : Gr} {V : List Int} (h : Vs g V) {a : Int} (ha : a ∉ V) (hr : 0 ≤ a ∧ a < g.ns) : Vs g (a :: V) :=
  ⟨List.nodup_cons.2 ⟨ha, h.nodup⟩, fun b hb => by
    rcases List.mem_cons.1 hb with rfl | hb
    · exact hr
    · exact h.rng b hb⟩
/-- a long word can be cut -/
def CutL (g : Gr) (V : List Int) (l : List Sy) (k n : Nat) : Prop :=
  (∃ k' n', n' < n ∧ k' ≤ k ∧ k ≤ k' + 243 ∧ DerS g l k' n') ∨ (∃ A ∈ V, ∃ j n', n' ≤ n ∧ j ≤ k ∧ TreeS g A j n') ∨ k ≤ l.length * 3 ^ (g.ns.toNat - V.length)
def CutT (g : Gr) (V : List Int) (a : Int) (k n : Nat) : Prop :=
  (∃ k' n', n' < n ∧ k' ≤ k ∧ k ≤ k' + 243 ∧ TreeS g a k' n') ∨ (∃ A ∈ V, ∃ j n', n' ≤ n ∧ j ≤ k ∧ TreeS g A j n') ∨ k ≤ 3 ^ (g.ns.toNat - V.length)
theorem cut_tree {g : Gr} (W : VG g) (h4 : g.ns ≤ 4) (h3 : ∀ r ∈ g.rs, r.r.length ≤ 3) {r : Ru} (hr : r ∈ g.rs) {k m : Nat} (hd : DerS g r.r k m) (ih : ∀ V, Vs g V → CutL g V r.r k m) (V : List Int) (hV : Vs g V) : CutT g V r.l k (m + 1) := by
  by_cases ha : r.l ∈ V
  · exact .inr (.inl ⟨r.l, ha, k, m + 1, Nat.le_refl _, Nat.le_refl _, r, m, hr, rfl, hd, rfl⟩)
  have hl := h3 r hr
  have hns := W.ns
  have hpow : (3 : Nat) ^ g.ns.toNat ≤ 81 := Nat.pow_le_pow_right (by omega) (show g.ns.toNat ≤ 4 by omega)
  rcases ih [] ⟨by simp, by simp⟩ with ⟨k', n', q1, q2, q3, q4⟩ | ⟨A, hA, _⟩ | q
  · exact .inl ⟨k', n' + 1, by omega, q2, q3, r, n', hr, rfl, q4, rfl⟩
  · cases hA
  have hk : k ≤ 243 := by
    have : r.r.length * 3 ^ (g.ns.toNat - ([] : List Int).length) ≤ 3 * 81 := Nat.mul_le_mul hl (by simpa using hpow)
    omega
  have hV' := hV.cons ha (W.left r hr)
  rcases ih _ hV' with ⟨k', n', q1, q2, q3, q4⟩ | ⟨A, hA, j, n', q1, q2, q3⟩ | q
  · exact .inl ⟨k', n' + 1, by omega, q2, q3, r, n', hr, rfl, q4, rfl⟩
  · rcases List.mem_cons.1 hA with rfl | hA
    · exact .inl ⟨j, n', by omega, q2, by omega, q3⟩
    · exact .inr (.inl ⟨A, hA, j, n', by omega, q2, q3⟩)
  · refine .inr (.inr ?_)
    have h5 := hV'.len
    simp only [List.length_cons] at h5 q
    have e : g.ns.toNat - V.length = g.ns.toNat - (V.length + 1) + 1 := by omega
    rw [e, Nat.pow_succ, Nat.mul_comm]
    exact Nat.le_trans q (Nat.mul_le_mul_right _ hl)
theorem cut_list {g : Gr} (W : VG g) (h4 : g.ns ≤ 4) (h3 : ∀ r ∈ g.rs, r.r.length ≤ 3) {l : List Sy} {k n : Nat} (hd : DerS g l k n) : ∀ V, Vs g V → CutL g V l k n := by
  induction hd with
  | nil => intro V _; exact .inr (.inr (by omega))
  | @term x l k n hd ih =>
    intro V hV
    rcases ih V hV with ⟨k', n', q1, q2, q3, q4⟩ | ⟨A, hA, j, n', q1, q2, q3⟩ | q
    · exact .inl ⟨1 + k', n', q1, by omega, by omega, .term q4⟩
    · exact .inr (.inl ⟨A, hA, j, n', q1, by omega, q3⟩)
    · refine .inr (.inr ?_)
      have : 0 < 3 ^ (g.ns.toNat - V.length) := Nat.pow_pos (by omega)
      rw [List.length_cons, Nat.add_mul, Nat.one_mul]
      omega
  | @non a l r j k m n hr ha hd1 hd2 ih1 ih2 =>
    intro V hV
    rcases cut_tree W h4 h3 hr hd1 ih1 V hV with ⟨k', n', q1, q2, q3, q4⟩ | ⟨A, hA, j', n', q1, q2, q3⟩ | q
    · refine .inl ⟨k' + k, n' + n, by omega, by omega, by omega, ?_⟩
      rw [ha] at q4
      exact q4.cons hd2
    · exact .inr (.inl ⟨A, hA, j', n', by omega, by omega, q3⟩)
    rcases ih2 V hV with ⟨k', n', q1, q2, q3, q4⟩ | ⟨A, hA, j', n', q1, q2, q3⟩ | q'
    · exact .inl ⟨j + k', m + 1 + n', by omega, by omega, by omega, .non hr ha hd1 q4⟩
    · exact .inr (.inl ⟨A, hA, j', n', by omega, by omega, q3⟩)
    · refine .inr (.inr ?_)
      rw [List.length_cons, Nat.add_mul, Nat.one_mul]
      omega
/-- if there is a word of more than 81, there is one of at most 324 -/
theorem long_some {g : Gr} (W : VG g) (h4 : g.ns ≤ 4) (h3 : ∀ r ∈ g.rs, r.r.length ≤ 3) {k : Nat} (hk : 81 < k) (h : HasD g g.st k) : ∃ k, 81 < k ∧ k ≤ 324 ∧ HasD g g.st k := by
  obtain ⟨k0, ⟨h1, h2⟩, hmin⟩ := least_nat (p := fun k => 81 < k ∧ HasD g g.st k) k ⟨hk, h⟩
  obtain ⟨n, hn⟩ := h2.sized
  obtain ⟨n0, hn0, hmin2⟩ := least_nat (p := fun n => TreeS g g.st k0 n) n hn
  refine ⟨k0, h1, ?_, h2⟩
  obtain ⟨r, m, hr, ha, hd, rfl⟩ := id hn0
  have hns := W.ns
  have := cut_tree W h4 h3 hr hd (cut_list W h4 h3 hd) [] ⟨by simp, by simp⟩
  rw [ha] at this
  rcases this with ⟨k', n', q1, q2, q3, q4⟩ | ⟨A, hA, _⟩ | q
  · by_cases e : k' = k0
    · subst e
      have := hmin2 n' q4
      omega
    · have : ¬ 81 < k' := fun q => by have := hmin k' ⟨q, q4.has⟩; omega
      omega
  · cases hA
  · have hpow : (3 : Nat) ^ g.ns.toNat ≤ 81 := Nat.pow_le_pow_right (by omega) (show g.ns.toNat ≤ 4 by omega)
    simp at q
    omega

/-- words by the height of their trees -/
def LenQ (Q : Int → Nat → Prop) : List Sy → Nat → Prop
  | [], k => k = 0
  | s :: l, k => ∃ j k', k = j + k' ∧ (if s.t then j = 1 else Q s.n j) ∧ LenQ Q l k'
def HasH (g : Gr) : Nat → Int → Nat → Prop
  | 0, _, _ => False
  | h + 1, a, k => ∃ r ∈ g.rs, r.l = a ∧ LenQ (HasH g h) r.r k
theorem LenQ.bound {Q : Int → Nat → Prop} {M : Nat} (hM : 1 ≤ M) (h : ∀ a k, Q a k → k ≤ M) : ∀ {l : List Sy} {k : Nat}, LenQ Q l k → k ≤ l.length * M
  | [], k, hq => by simp only [LenQ] at hq; omega
  | s :: l, k, hq => by
    obtain ⟨j, k', rfl, h1, h2⟩ := hq
    have := LenQ.bound hM h h2
    rw [List.length_cons, Nat.add_mul, Nat.one_mul]
    split at h1
    · omega
    · have := h _ _ h1; omega
theorem HasH.bound {g : Gr} {c : Nat} (hc : 1 ≤ c) (h3 : ∀ r ∈ g.rs, r.r.length ≤ c) : ∀ (h : Nat) {a : Int} {k : Nat}, HasH g h a k → k ≤ c ^ h
  | 0, _, _, h => h.elim
  | h + 1, a, k, hh => by
    obtain ⟨r, hr, _, hl⟩ := hh
    have := LenQ.bound (M := c ^ h) (Nat.pow_pos hc) (fun a k q => HasH.bound hc h3 h q) hl
    rw [Nat.pow_succ, Nat.mul_comm]
    exact Nat.le_trans this (Nat.mul_le_mul_right _ (h3 r hr))
theorem DerS.prd {g : Gr} {l : List Sy} {k n : Nat} (h : DerS g l k n) : Prd g l := by
  induction h with
  | nil => intro s hs; cases hs
  | term _ ih =>
    intro s hs ht
    rcases List.mem_cons.1 hs with rfl | hs
    · cases ht
    · exact ih s hs ht
  | non hr ha hd _ _ ih2 =>
    intro s hs ht
    rcases List.mem_cons.1 hs with rfl | hs
    · exact ⟨_, _, hr, ha, hd.len⟩
    · exact ih2 s hs ht
theorem DerS.big {g : Gr} {l : List Sy} {k n : Nat} (h : DerS g l k n) (hk : 0 < k) : ∃ (i : Nat) (x : Sy), l[i]? = some x ∧ Big g x := by
  induction h with
  | nil => omega
  | term _ ih => exact ⟨0, _, rfl, .inl rfl⟩
  | @non a l r j k m n hr ha hd _ _ ih2 =>
    by_cases hj : 0 < j
    · exact ⟨0, _, rfl, .inr ⟨j, hj, r, hr, ha, hd.len⟩⟩
    · obtain ⟨i, x, h1, h2⟩ := ih2 (by omega)
      exact ⟨i + 1, x, by simpa using h1, h2⟩
/-- a symbol's way to A; something else beside it -/
def Lnk (g : Gr) (l : List Sy) (A : Int) (up : Prop) : Prop := ∃ (i : Nat) (b : Int) (f : Bool), l[i]? = some ⟨false, b⟩ ∧ Wk g f b A ∧ (up → f = true ∨ ∃ (m : Nat) (x : Sy), m ≠ i ∧ l[m]? = some x ∧ Big g x)
def FlatL (g : Gr) (V : List Int) (l : List Sy) (k n : Nat) : Prop :=
  (∃ n', n' < n ∧ DerS g l k n') ∨ (∃ A ∈ V, ∃ j n', n' ≤ n ∧ j ≤ k ∧ TreeS g A j n' ∧ Lnk g l A (j < k)) ∨ LenQ (HasH g (g.ns.toNat - V.length)) l k
def FlatT (g : Gr) (V : List Int) (a : Int) (k n : Nat) : Prop :=
  (∃ n', n' < n ∧ TreeS g a k n') ∨ (∃ A ∈ V, ∃ j n', n' ≤ n ∧ j ≤ k ∧ TreeS g A j n' ∧ ∃ f, Wk g f a A ∧ (j < k → f = true)) ∨ HasH g (g.ns.toNat - V.length) a k
def Rch (g : Gr) (a : Int) : Prop := ∃ f, Wk g f g.st a
theorem flat_tree {g : Gr} (W : VG g) (hE : ¬ Endl g) {r : Ru} (hr : r ∈ g.rs) (hR : Rch g r.l) {k m : Nat} (hd : DerS g r.r k m) (ih : ∀ V, Vs g V → FlatL g V r.r k m) (V : List Int) (hV : Vs g V) : FlatT g V r.l k (m + 1) := by
  by_cases ha : r.l ∈ V
  · exact .inr (.inl ⟨r.l, ha, k, m + 1, Nat.le_refl _, Nat.le_refl _, ⟨r, m, hr, rfl, hd, rfl⟩, false, .refl _, fun h => by omega⟩)
  have hV' := hV.cons ha (W.left r hr)
  rcases ih _ hV' with ⟨n', q1, q2⟩ | ⟨A, hA, j, n', q1, q2, q3, i, b, f, q4, q5, q6⟩ | q
  · exact .inl ⟨n' + 1, by omega, r, n', hr, rfl, q2, rfl⟩
  · have hW : ∃ f, Wk g f r.l A ∧ (j < k → f = true) := by
      by_cases hjk : j < k
      · rcases q6 hjk with q | q
        · exact ⟨_, .step (gr := false) ⟨r, hr, rfl, hd.prd, i, q4, by simp⟩ q5, by simp [q]⟩
        · exact ⟨_, .step (gr := true) ⟨r, hr, rfl, hd.prd, i, q4, fun _ => q⟩ q5, by simp⟩
      · exact ⟨_, .step (gr := false) ⟨r, hr, rfl, hd.prd, i, q4, by simp⟩ q5, fun q => absurd q hjk⟩
    rcases List.mem_cons.1 hA with rfl | hA
    · obtain ⟨f', hf1, hf2⟩ := hW
      have hjk : j = k := Nat.le_antisymm q2 (Nat.le_of_not_lt fun q => by
        have := hf2 q
        subst this
        obtain ⟨f0, hf0⟩ := hR
        exact hE ⟨_, f0, hf0, hf1⟩)
      subst hjk
      exact .inl ⟨n', by omega, q3⟩
    · exact .inr (.inl ⟨A, hA, j, n', by omega, q2, q3, hW⟩)
  · refine .inr (.inr ?_)
    have h5 := hV'.len
    simp only [List.length_cons] at h5 q
    have e : g.ns.toNat - V.length = g.ns.toNat - (V.length + 1) + 1 := by omega
    rw [e]
    exact ⟨r, hr, rfl, q⟩
theorem Rch.kid {g : Gr} {r : Ru} (hr : r ∈ g.rs) (hp : Prd g r.r) (h : Rch g r.l) {b : Int} (hb : ⟨false, b⟩ ∈ r.r) : Rch g b := by
  obtain ⟨f, hf⟩ := h
  obtain ⟨i, hi⟩ := List.getElem?_of_mem hb
  exact ⟨_, hf.trans (.step (gr := false) ⟨r, hr, rfl, hp, i, hi, by simp⟩ (.refl _))⟩
theorem flat_list {g : Gr} (W : VG g) (hE : ¬ Endl g) {l : List Sy} {k n : Nat} (hd : DerS g l k n) : (∀ b, ⟨false, b⟩ ∈ l → Rch g b) → ∀ V, Vs g V → FlatL g V l k n := by
  induction hd with
  | nil => intro _ V _; exact .inr (.inr rfl)
  | @term x l k n hd ih =>
    intro hR V hV
    rcases ih (fun b hb => hR b (by simp [hb])) V hV with ⟨n', q1, q2⟩ | ⟨A, hA, j, n', q1, q2, q3, i, b, f, q4, q5, q6⟩ | q
    · exact .inl ⟨n', q1, .term q2⟩
    · exact .inr (.inl ⟨A, hA, j, n', q1, by omega, q3, i + 1, b, f, by simpa using q4, q5, fun _ => .inr ⟨0, _, by omega, rfl, .inl rfl⟩⟩)
    · exact .inr (.inr ⟨1, k, rfl, by simp, q⟩)
  | @non a l r j k m n hr ha hd1 hd2 ih1 ih2 =>
    intro hR V hV
    have hRa : Rch g r.l := by rw [ha]; exact hR a (by simp)
    have hkid : ∀ b, ⟨false, b⟩ ∈ r.r → Rch g b := fun b hb => hRa.kid hr hd1.prd hb
    have hT := flat_tree W hE hr hRa hd1 (ih1 hkid) V hV
    rw [ha] at hT
    have hHas : HasD g a j := ⟨r, hr, ha, hd1.len⟩
    rcases hT with ⟨n', q1, q2⟩ | ⟨A, hA, j', n', q1, q2, q3, f, q4, q5⟩ | q
    · exact .inl ⟨n' + n, by omega, q2.cons hd2⟩
    · refine .inr (.inl ⟨A, hA, j', n', by omega, by omega, q3, 0, a, f, rfl, q4, fun hlt => ?_⟩)
      by_cases e : j' < j
      · exact .inl (q5 e)
      · obtain ⟨i, x, h1, h2⟩ := hd2.big (by omega)
        exact .inr ⟨i + 1, x, by omega, by simpa using h1, h2⟩
    rcases ih2 (fun b hb => hR b (by simp [hb])) V hV with ⟨n', q1, q2⟩ | ⟨A, hA, j', n', q1, q2, q3, i, b, f, q4, q5, q6⟩ | q'
    · exact .inl ⟨m + 1 + n', by omega, .non hr ha hd1 q2⟩
    · refine .inr (.inl ⟨A, hA, j', n', by omega, by omega, q3, i + 1, b, f, by simpa using q4, q5, fun hlt => ?_⟩)
      by_cases e : j' < k
      · rcases q6 e with q | ⟨m', x, h1, h2, h3⟩
        · exact .inl q
        · exact .inr ⟨m' + 1, x, by omega, by simpa using h2, h3⟩
      · exact .inr ⟨0, _, by omega, rfl, .inr ⟨j, by omega, hHas⟩⟩
    · exact .inr (.inr ⟨j, k, rfl, by simpa using q, q'⟩)
/-- each word has a tree that is not high -/
theorem flat_all {g : Gr} (W : VG g) (hE : ¬ Endl g) {k : Nat} (h : HasD g g.st k) : HasH g g.ns.toNat g.st k := by
  obtain ⟨n, hn⟩ := h.sized
  obtain ⟨n0, hn0, hmin⟩ := least_nat (p := fun n => TreeS g g.st k n) n hn
  obtain ⟨r, m, hr, ha, hd, rfl⟩ := id hn0
  have hR : Rch g r.l := by rw [ha]; exact ⟨_, .refl _⟩
  have := flat_tree W hE hr hR hd (flat_list W hE hd fun b hb => hR.kid hr hd.prd hb) [] ⟨by simp, by simp⟩
  rw [ha] at this
  rcases this with ⟨n', q1, q2⟩ | ⟨A, hA, _⟩ | q
  · have := hmin n' q2; omega
  · cases hA
  · simpa using q
end Go.Proofs.Ytniobbepliknmaa.V
/- The longest word, by rounds: the plain law; no condition. -/
namespace Go.Proofs.Ytniobbepliknmaa.V
open Go
set_option linter.unusedVariables false
set_option linter.unusedSimpArgs false

def lgt (L : List Int) (a : Int) : Int := L.getD a.toNat 0
/-- the sum of what is known of symbols, or -1 -/
def totF (L : List Int) : List Sy → Int → Int
  | [], n => n
  | s :: l, n => if s.t then totF L l (n + 1) else if lgt L s.n < 0 then -1 else totF L l (n + lgt L s.n)
def stepR (most : Int) (L : List Int) (r : Ru) : List Int :=
  if 0 ≤ totF L r.r 0 ∧ lgt L r.l < min (totF L r.r 0) most then L.set r.l.toNat (min (totF L r.r 0) most) else L
def chg (most : Int) (L : List Int) (r : Ru) : Bool := decide (0 ≤ totF L r.r 0 ∧ lgt L r.l < min (totF L r.r 0) most)
def roundR (most : Int) (rs : List Ru) (L : List Int) : List Int := rs.foldl (stepR most) L
def anyC (most : Int) : List Ru → List Int → Bool
  | [], _ => false
  | r :: rs, L => chg most L r || anyC most rs (stepR most L r)
def rounds (most : Int) (rs : List Ru) : Nat → List Int → List Int
  | 0, L => L
  | t + 1, L => roundR most rs (rounds most rs t L)
theorem stepR_len (most : Int) (L : List Int) (r : Ru) : (stepR most L r).length = L.length := by unfold stepR; split <;> simp
theorem roundR_len (most : Int) : ∀ (rs : List Ru) (L : List Int), (roundR most rs L).length = L.length
  | [], L => rfl
  | r :: rs, L => by rw [roundR, List.foldl_cons]; exact (roundR_len most rs _).trans (stepR_len most L r)
theorem rounds_len (most : Int) (rs : List Ru) : ∀ t L, (rounds most rs t L).length = L.length
  | 0, L => rfl
  | t + 1, L => by rw [rounds, roundR_len, rounds_len most rs t]
theorem stepR_le (most : Int) (L : List Int) (r : Ru) (a : Int) : lgt L a ≤ lgt (stepR most L r) a := by
  unfold stepR
  split
  · rename_i h
    unfold lgt at *
    rw [List.getD_eq_getElem?_getD, List.getD_eq_getElem?_getD, List.getElem?_set]
    split
    · rename_i e
      split
      · rw [← e, ← List.getD_eq_getElem?_getD]; simp only [Option.getD_some]; omega
      · rename_i hl
        rw [List.getElem?_eq_none (by omega)]; exact Int.le_refl _
    · exact Int.le_refl _
  · exact Int.le_refl _
theorem roundR_le (most : Int) : ∀ (rs : List Ru) (L : List Int) (a : Int), lgt L a ≤ lgt (roundR most rs L) a
  | [], L, a => Int.le_refl _
  | r :: rs, L, a => Int.le_trans (stepR_le most L r a) (roundR_le most rs _ a)
theorem stepR_at {g : Gr} (W : VG g) {most : Int} {L : List Int} {r : Ru} (hr : r ∈ g.rs) (hL : L.length = g.ns.toNat) (h : 0 ≤ totF L r.r 0) : min (totF L r.r 0) most ≤ lgt (stepR most L r) r.l := by
  have hl := W.left r hr
  unfold stepR
  split
  · unfold lgt
    rw [List.getD_eq_getElem?_getD, List.getElem?_set_self (by omega)]
    exact Int.le_refl _
  · rename_i hn
    omega
/-- what is known is no more than so -/
def SndG (g : Gr) (L : List Int) : Prop := ∀ a : Nat, a < L.length → -1 ≤ L.getD a 0 ∧ (0 ≤ L.getD a 0 → ∃ k : Nat, HasD g a k ∧ L.getD a 0 ≤ k)
theorem tot_sound {g : Gr} {L : List Int} (h : SndG g L) : ∀ {l : List Sy} {n : Int}, (∀ s ∈ l, 0 ≤ s.n ∧ (s.t = false → s.n < L.length)) → 0 ≤ n → 0 ≤ totF L l n → ∃ k : Nat, LenD g l k ∧ totF L l n ≤ n + k
  | [], n, _, _, _ => ⟨0, .nil, by simp [totF]⟩
  | ⟨true, a⟩ :: l, n, hs, h0, hp => by
    simp only [totF, if_true] at hp ⊢
    obtain ⟨k, h1, h2⟩ := tot_sound h (l := l) (fun s q => hs s (by simp [q])) (by omega) hp
    exact ⟨1 + k, .term h1, by omega⟩
  | ⟨false, a⟩ :: l, n, hs, h0, hp => by
    have ha : 0 ≤ a := (hs ⟨false, a⟩ (by simp)).1
    have hlt : a < L.length := (hs ⟨false, a⟩ (by simp)).2 rfl
    simp only [totF, Bool.false_eq_true, if_false] at hp ⊢
    split at hp
    · omega
    rename_i hn
    rw [if_neg hn]
    obtain ⟨k, h1, h2⟩ := tot_sound h (l := l) (fun s q => hs s (by simp [q])) (by omega) hp
    obtain ⟨j, ⟨r, hr, hra, hrd⟩, h4⟩ := (h a.toNat (by omega)).2 (by unfold lgt at hn; omega)
    refine ⟨j + k, .non hr (by rw [hra]; omega) hrd h1, ?_⟩
    unfold lgt at *
    omega
theorem snd_step {g : Gr} (W : VG g) {most : Int} (hm : 0 ≤ most) {L : List Int} {r : Ru} (hr : r ∈ g.rs) (hL : L.length = g.ns.toNat) (h : SndG g L) : SndG g (stepR most L r) := by
  intro a ha
  rw [stepR_len] at ha
  unfold stepR
  split
  · rename_i hc
    have hl := W.left r hr
    rw [List.getD_eq_getElem?_getD, List.getElem?_set]
    split
    · rename_i e
      rw [if_pos (by omega)]
      simp only [Option.getD_some]
      obtain ⟨k, h1, h2⟩ := tot_sound h (l := r.r) (n := 0) (fun s hs => by have := W.sym r hr s hs; exact ⟨this.1, fun q => by have := this.2.2 q; omega⟩) (by omega) hc.1
      exact ⟨by omega, fun _ => ⟨k, ⟨r, hr, by omega, h1⟩, by omega⟩⟩
    · rw [← List.getD_eq_getElem?_getD]; exact h a ha
  · exact h a ha
theorem snd_round {g : Gr} (W : VG g) {most : Int} (hm : 0 ≤ most) : ∀ (rs : List Ru) {L : List Int}, (∀ r ∈ rs, r ∈ g.rs) → L.length = g.ns.toNat → SndG g L → SndG g (roundR most rs L)
  | [], L, _, _, h => h
  | r :: rs, L, hr, hL, h => snd_round W hm rs (fun r q => hr r (by simp [q])) (by rw [stepR_len]; exact hL) (snd_step W hm (hr r (by simp)) hL h)
theorem snd_rounds {g : Gr} (W : VG g) {most : Int} (hm : 0 ≤ most) {L : List Int} (hL : L.length = g.ns.toNat) (h : SndG g L) : ∀ t, SndG g (rounds most g.rs t L)
  | 0 => h
  | t + 1 => snd_round W hm g.rs (fun r q => q) (by rw [rounds_len, hL]) (snd_rounds W hm hL h t)
theorem snd_init (g : Gr) (n : Nat) : SndG g (List.replicate n (-1)) := by
  intro a ha
  have : (List.replicate n (-1 : Int)).getD a 0 = -1 := by simp at ha; simp [List.getD_eq_getElem?_getD, ha]
  rw [this]
  exact ⟨by omega, fun q => by omega⟩
/-- nothing more is found -/
def Clo (g : Gr) (L : List Int) : Prop := ∀ r ∈ g.rs, 0 ≤ totF L r.r 0 → min (totF L r.r 0) 1 ≤ lgt L r.l
theorem anyC_no {most : Int} : ∀ {rs : List Ru} {L : List Int}, anyC most rs L = false → roundR most rs L = L ∧ ∀ r ∈ rs, 0 ≤ totF L r.r 0 → min (totF L r.r 0) most ≤ lgt L r.l
  | [], L, _ => ⟨rfl, by simp⟩
  | r :: rs, L, h => by
    simp only [anyC, Bool.or_eq_false_iff] at h
    obtain ⟨h1, h2⟩ := h
    have h3 : ¬ (0 ≤ totF L r.r 0 ∧ lgt L r.l < min (totF L r.r 0) most) := by simpa [chg] using h1
    have e : stepR most L r = L := if_neg h3
    rw [e] at h2
    obtain ⟨h4, h5⟩ := anyC_no h2
    refine ⟨by rw [roundR, List.foldl_cons, e]; exact h4, fun r' hr' => ?_⟩
    rcases List.mem_cons.1 hr' with rfl | hr'
    · intro q; omega
    · exact h5 r' hr'
theorem clo_has {g : Gr} {L : List Int} (h : Clo g L) {l : List Sy} {k : Nat} (hd : LenD g l k) : ∀ {n : Int}, 0 ≤ n → 0 ≤ totF L l n ∧ min (n + k) 1 ≤ totF L l n := by
  induction hd with
  | nil => intro n hn; simp only [totF]; omega
  | @term a l k _ ih =>
    intro n hn
    have := ih (n := n + 1) (by omega)
    simp only [totF, if_true]
    omega
  | @non a l r j k hr ha hd _ ih1 ih2 =>
    intro n hn
    have h1 := ih1 (n := 0) (by omega)
    have h2 := h r hr h1.1
    rw [ha] at h2
    have h3 := ih2 (n := n + lgt L a) (by omega)
    simp only [totF, Bool.false_eq_true, if_false]
    rw [if_neg (by omega)]
    omega
theorem clo_iff {g : Gr} (W : VG g) {L : List Int} (hL : L.length = g.ns.toNat) (hS : SndG g L) (hC : Clo g L) {a : Int} (ha : 0 ≤ a ∧ a < g.ns) : (0 ≤ lgt L a ↔ ∃ k, HasD g a k) ∧ (0 < lgt L a ↔ ∃ k, 0 < k ∧ HasD g a k) := by
  have h1 := (hS a.toNat (by omega)).2
  rw [show ((a.toNat : Nat) : Int) = a by omega] at h1
  have h2 : ∀ k, HasD g a k → min (k : Int) 1 ≤ lgt L a := by
    rintro k ⟨r, hr, hra, hd⟩
    have := clo_has hC hd (n := 0) (by omega)
    have := hC r hr this.1
    rw [hra] at this
    omega
  refine ⟨⟨fun q => ?_, ?_⟩, fun q => ?_, ?_⟩
  · obtain ⟨k, q1, q2⟩ := h1 q; exact ⟨k, q1⟩
  · rintro ⟨k, q⟩; have := h2 k q; omega
  · obtain ⟨k, q1, q2⟩ := h1 (Int.le_of_lt q)
    unfold lgt at q
    exact ⟨k, by omega, q1⟩
  · rintro ⟨k, q0, q⟩; have := h2 k q; omega
theorem tot_prd {L : List Int} : ∀ {l : List Sy} {n : Int}, 0 ≤ n → (0 ≤ totF L l n ↔ ∀ s ∈ l, s.t = false → 0 ≤ lgt L s.n)
  | [], n, h => by simp [totF, h]
  | ⟨true, a⟩ :: l, n, h => by
    simp only [totF, if_true]
    rw [tot_prd (by omega)]
    simp
  | ⟨false, a⟩ :: l, n, h => by
    simp only [totF, Bool.false_eq_true, if_false]
    split
    · rename_i hn
      refine ⟨fun q => by omega, fun q => ?_⟩
      have := q ⟨false, a⟩ (by simp) rfl
      simp only at this
      omega
    · rename_i hn
      rw [tot_prd (by omega)]
      simp only [List.mem_cons, forall_eq_or_imp]
      exact ⟨fun q => ⟨fun _ => by omega, q⟩, fun q => q.2⟩
/-- ways between nonterminals -/
def WayE (g : Gr) (L : List Int) (a b : Nat) : Prop := ∃ r ∈ g.rs, r.l = a ∧ 0 ≤ totF L r.r 0 ∧ ∃ i : Nat, r.r[i]? = some ⟨false, (b : Int)⟩
def GrowE (g : Gr) (L : List Int) (a b : Nat) : Prop := ∃ r ∈ g.rs, r.l = a ∧ 0 ≤ totF L r.r 0 ∧ ∃ i : Nat, r.r[i]? = some ⟨false, (b : Int)⟩ ∧ ∃ (j : Nat) (x : Sy), j ≠ i ∧ r.r[j]? = some x ∧ (x.t = true ∨ 0 < lgt L x.n)
def EndE (g : Gr) (L : List Int) (n : Nat) : Prop := ∃ a b : Nat, GrowE g L a b ∧ (a = b ∨ PathK (WayE g L) n b a) ∧ (a = g.st.toNat ∨ PathK (WayE g L) n g.st.toNat a)
section
variable {g : Gr} (W : VG g) {L : List Int} (hL : L.length = g.ns.toNat) (hS : SndG g L) (hC : Clo g L)
include W hL hS hC
theorem prd_iff {r : Ru} (hr : r ∈ g.rs) : 0 ≤ totF L r.r 0 ↔ Prd g r.r := by
  rw [tot_prd (by omega)]
  constructor
  · intro h s hs ht
    have := W.sym r hr s hs
    exact (clo_iff W hL hS hC ⟨this.1, this.2.2 ht⟩).1.1 (h s hs ht)
  · intro h s hs ht
    have := W.sym r hr s hs
    exact (clo_iff W hL hS hC ⟨this.1, this.2.2 ht⟩).1.2 (h s hs ht)
theorem big_iff {r : Ru} (hr : r ∈ g.rs) {x : Sy} (hx : x ∈ r.r) : (x.t = true ∨ 0 < lgt L x.n) ↔ Big g x ∨ (x.t = true) := by
  have := W.sym r hr x hx
  constructor
  · rintro (h | h)
    · exact .inr h
    · cases ht : x.t with
      | true => exact .inr rfl
      | false => exact .inl (.inr ((clo_iff W hL hS hC ⟨this.1, this.2.2 ht⟩).2.1 h))
  · rintro (h | h)
    · rcases h with h | h
      · exact .inl h
      · cases ht : x.t with
        | true => exact .inl rfl
        | false => exact .inr ((clo_iff W hL hS hC ⟨this.1, this.2.2 ht⟩).2.2 h)
    · exact .inl h
theorem edge_way {gr : Bool} {a b : Int} (h : Edge g gr a b) : 0 ≤ a ∧ a < g.ns ∧ 0 ≤ b ∧ b < g.ns ∧ WayE g L a.toNat b.toNat ∧ (gr = true → GrowE g L a.toNat b.toNat) := by
  obtain ⟨r, hr, ha, hp, i, hi, hg⟩ := h
  have h1 := W.left r hr
  have h2 := W.sym r hr _ (List.mem_of_getElem? hi)
  have h3 := h2.2.2 rfl
  have ea : ((a.toNat : Nat) : Int) = a := by omega
  have eb : ((b.toNat : Nat) : Int) = b := by have := h2.1; simp only at this; omega
  have ht := (prd_iff W hL hS hC hr).2 hp
  refine ⟨by omega, by omega, h2.1, h3, ⟨r, hr, by rw [ea]; exact ha, ht, i, by rw [eb]; exact hi⟩, fun q => ?_⟩
  obtain ⟨j, x, q1, q2, q3⟩ := hg q
  exact ⟨r, hr, by rw [ea]; exact ha, ht, i, by rw [eb]; exact hi, j, x, q1, q2, (big_iff W hL hS hC hr (List.mem_of_getElem? q2)).2 (.inl q3)⟩
theorem wk_path {f : Bool} {a b : Int} (h : Wk g f a b) : a = b ∨ PathK (WayE g L) g.ns.toNat a.toNat b.toNat := by
  induction h with
  | refl a => exact .inl rfl
  | step e _ ih =>
    have h1 := edge_way W hL hS hC e
    rcases ih with rfl | q
    · exact .inr (.one h1.2.2.2.2.1)
    · exact .inr (.trans (.one h1.2.2.2.2.1) (by omega) q)
theorem way_edge {a b : Nat} (h : WayE g L a b) : Edge g false a b := by
  obtain ⟨r, hr, ha, ht, i, hi⟩ := h
  exact ⟨r, hr, ha, (prd_iff W hL hS hC hr).1 ht, i, hi, by simp⟩
theorem grow_edge {a b : Nat} (h : GrowE g L a b) : Edge g true a b := by
  obtain ⟨r, hr, ha, ht, i, hi, j, x, h1, h2, h3⟩ := h
  refine ⟨r, hr, ha, (prd_iff W hL hS hC hr).1 ht, i, hi, fun _ => ⟨j, x, h1, h2, ?_⟩⟩
  rcases (big_iff W hL hS hC hr (List.mem_of_getElem? h2)).1 h3 with q | q
  · exact q
  · exact .inl q
theorem path_wk {n a b : Nat} (h : PathK (WayE g L) n a b) : Wk g false a b := by
  induction h with
  | one e => exact .step (gr := false) (way_edge W hL hS hC e) (.refl _)
  | trans _ _ _ ih1 ih2 => exact ih1.trans ih2
omit W hL hS hC in
theorem wk_grow {f : Bool} {a b : Int} (h : Wk g f a b) : f = true → ∃ (c d : Int) (f1 f2 : Bool), Wk g f1 a c ∧ Edge g true c d ∧ Wk g f2 d b := by
  induction h with
  | refl a => intro h; cases h
  | @step gr f a b c e hw ih =>
    intro h
    cases gr with
    | true => exact ⟨a, b, _, _, .refl _, e, hw⟩
    | false =>
      obtain ⟨c', d, f1, f2, h1, h2, h3⟩ := ih (by simpa using h)
      exact ⟨c', d, _, _, .step e h1, h2, h3⟩
theorem end_iff : EndE g L g.ns.toNat ↔ Endl g := by
  have hst := W.st
  constructor
  · rintro ⟨a, b, h1, h2, h3⟩
    have e := grow_edge W hL hS hC h1
    refine ⟨(a : Int), ?_⟩
    have hb : ∃ f, Wk g f b a := by
      rcases h2 with rfl | q
      · exact ⟨_, .refl _⟩
      · exact ⟨_, path_wk W hL hS hC q⟩
    have hs : ∃ f, Wk g f g.st a := by
      rcases h3 with rfl | q
      · exact ⟨false, by rw [show ((g.st.toNat : Nat) : Int) = g.st by omega]; exact .refl _⟩
      · have := path_wk W hL hS hC q
        rw [show ((g.st.toNat : Nat) : Int) = g.st by omega] at this
        exact ⟨_, this⟩
    obtain ⟨f, hf⟩ := hb
    obtain ⟨f', hf'⟩ := hs
    exact ⟨f', hf', by have := Wk.step e hf; simpa using this⟩
  · rintro ⟨a, f, h1, h2⟩
    obtain ⟨c, d, f1, f2, h3, h4, h5⟩ := wk_grow h2 rfl
    have hcd := edge_way W hL hS hC h4
    refine ⟨c.toNat, d.toNat, hcd.2.2.2.2.2 rfl, ?_, ?_⟩
    · rcases wk_path W hL hS hC (h5.trans h3) with q | q
      · exact .inl (by rw [q])
      · exact .inr q
    · rcases wk_path W hL hS hC (h1.trans h3) with q | q
      · exact .inl (by rw [q])
      · exact .inr q
end
/-- rounds reach all trees that are not higher -/
theorem tot_high {g : Gr} {L : List Int} {h : Nat} : ∀ {l : List Sy} {k : Nat} {n : Int}, LenQ (HasH g h) l k → (∀ (a : Int) (j : Nat), HasH g h a j → (j : Int) ≤ lgt L a) → 0 ≤ n → n + k ≤ totF L l n
  | [], k, n, hq, _, _ => by simp only [LenQ] at hq; subst hq; simp [totF]
  | ⟨true, a⟩ :: l, k, n, hq, hL, h0 => by
    obtain ⟨j, k', rfl, h1, h2⟩ := hq
    simp only [if_true] at h1
    have := tot_high (n := n + 1) h2 hL (by omega)
    simp only [totF, if_true]
    omega
  | ⟨false, a⟩ :: l, k, n, hq, hL, h0 => by
    obtain ⟨j, k', rfl, h1, h2⟩ := hq
    simp only [Bool.false_eq_true, if_false] at h1
    have h3 := hL a j h1
    have := tot_high (n := n + lgt L a) h2 hL (by omega)
    simp only [totF, Bool.false_eq_true, if_false]
    rw [if_neg (by omega)]
    omega
theorem round_high {g : Gr} (W : VG g) {most : Int} {h : Nat} {L0 : List Int} (hL0 : ∀ (a : Int) (j : Nat), HasH g h a j → (j : Int) ≤ lgt L0 a) : ∀ (rs : List Ru) {L : List Int}, (∀ r ∈ rs, r ∈ g.rs) → L.length = g.ns.toNat → (∀ a, lgt L0 a ≤ lgt L a) →
    ∀ r ∈ rs, ∀ k : Nat, (k : Int) ≤ most → LenQ (HasH g h) r.r k → (k : Int) ≤ lgt (roundR most rs L) r.l
  | r :: rs, L, hr, hL, hle, r', hr', k, hk, hq => by
    have hr0 := hr r (by simp)
    rcases List.mem_cons.1 hr' with rfl | hr'
    · have h1 := tot_high (L := L) (n := 0) hq (fun a j q => Int.le_trans (hL0 a j q) (hle a)) (by omega)
      have h2 := stepR_at W (most := most) hr0 hL (by omega)
      have h3 := roundR_le most rs (stepR most L r') r'.l
      rw [roundR, List.foldl_cons]
      show (k : Int) ≤ lgt (roundR most rs (stepR most L r')) r'.l
      omega
    · rw [roundR, List.foldl_cons]
      exact round_high W hL0 rs (L := stepR most L r) (fun r q => hr r (by simp [q])) (by rw [stepR_len]; exact hL) (fun a => Int.le_trans (hle a) (stepR_le most L r a)) r' hr' k hk hq
theorem rounds_high {g : Gr} (W : VG g) {most : Int} (hm : 4194304 ≤ most) {L : List Int} (hL : L.length = g.ns.toNat) : ∀ (t : Nat), t ≤ 11 → ∀ (a : Int) (k : Nat), HasH g t a k → (k : Int) ≤ lgt (rounds most g.rs t L) a
  | 0, _, a, k, h => h.elim
  | t + 1, ht, a, k, h => by
    have hb := HasH.bound (c := 4) (by omega) W.right _ h
    have : 4 ^ (t + 1) ≤ 4 ^ 11 := Nat.pow_le_pow_right (by omega) ht
    have e : (4 : Nat) ^ 11 = 4194304 := by decide
    obtain ⟨r, hr, ha, hq⟩ := h
    have := round_high W (most := most) (rounds_high W hm hL t (by omega)) g.rs (L := rounds most g.rs t L) (fun r q => q) (by rw [rounds_len, hL]) (fun a => Int.le_refl _) r hr k (by omega) hq
    rw [ha] at this
    exact this
theorem rounds_le {most : Int} {rs : List Ru} {L : List Int} {a : Int} : ∀ t d, lgt (rounds most rs t L) a ≤ lgt (rounds most rs (t + d) L) a
  | t, 0 => Int.le_refl _
  | t, d + 1 => Int.le_trans (rounds_le t d) (roundR_le _ _ _ _)
/-- what lens.Greatest answers -/
def GrtR (g : Gr) (x : Int) : Prop := (Endl g ∧ x = -2) ∨ (¬ Endl g ∧ ((x = -1 ∧ ∀ k, ¬ HasD g g.st k) ∨ ∃ k : Nat, x = k ∧ HasD g g.st k ∧ ∀ j, HasD g g.st j → j ≤ k))
theorem grt_no {g : Gr} (W : VG g) {most : Int} (hm : 4194304 ≤ most) {L : List Int} (hL : L.length = g.ns.toNat) (hS : SndG g L) (hE : ¬ Endl g) {x : Int} (hx : x = lgt (rounds most g.rs (g.ns.toNat + 1) L) g.st) : GrtR g x := by
  refine .inr ⟨hE, ?_⟩
  have hns := W.ns
  have hst := W.st
  have h1 := snd_rounds W (by omega) hL hS (most := most) (g.ns.toNat + 1) g.st.toNat (by rw [rounds_len]; omega)
  rw [show ((g.st.toNat : Nat) : Int) = g.st by omega] at h1
  change -1 ≤ lgt _ _ ∧ (0 ≤ lgt _ _ → ∃ k : Nat, HasD g g.st k ∧ lgt _ _ ≤ _) at h1
  rw [← hx] at h1
  have h2 : ∀ k, HasD g g.st k → (k : Int) ≤ x := fun k hk => by
    have := rounds_high W hm hL g.ns.toNat (by omega) g.st k (flat_all W hE hk)
    rw [hx]
    exact Int.le_trans this (rounds_le _ 1)
  by_cases h0 : 0 ≤ x
  · obtain ⟨k, q1, q2⟩ := h1.2 h0
    have := h2 k q1
    exact .inr ⟨k, by omega, q1, fun j hj => by have := h2 j hj; omega⟩
  · exact .inl ⟨by omega, fun k hk => by have := h2 k hk; omega⟩
/-- how much is known -/
theorem lgt_sum : ∀ {L L' : List Int}, L.length = L'.length → (∀ a : Nat, L.getD a 0 ≤ L'.getD a 0) → L.sum ≤ L'.sum
  | [], [], _, _ => Int.le_refl _
  | x :: L, y :: L', h, hl => by
    have h1 := lgt_sum (L := L) (L' := L') (by simpa using h) (fun a => by simpa using hl (a + 1))
    have h2 := hl 0
    simp at h2 ⊢
    omega
theorem lgt_sum_lt : ∀ {L L' : List Int} {b : Nat}, L.length = L'.length → (∀ a : Nat, L.getD a 0 ≤ L'.getD a 0) → L.getD b 0 < L'.getD b 0 → L.sum < L'.sum
  | [], [], b, _, _, hb => by simp at hb
  | x :: L, y :: L', 0, h, hl, hb => by
    have h1 := lgt_sum (L := L) (L' := L') (by simpa using h) (fun a => by simpa using hl (a + 1))
    simp at hb ⊢
    omega
  | x :: L, y :: L', b + 1, h, hl, hb => by
    have h1 := lgt_sum_lt (L := L) (L' := L') (b := b) (by simpa using h) (fun a => by simpa using hl (a + 1)) (by simpa using hb)
    have h2 := hl 0
    simp at h2 ⊢
    omega
theorem anyC_lt {g : Gr} (W : VG g) {most : Int} : ∀ {rs : List Ru} {L : List Int}, (∀ r ∈ rs, r ∈ g.rs) → L.length = g.ns.toNat → anyC most rs L = true → ∃ b : Nat, L.getD b 0 < (roundR most rs L).getD b 0
  | r :: rs, L, hr, hL, h => by
    simp only [anyC, Bool.or_eq_true] at h
    have hr0 := hr r (by simp)
    have hl := W.left r hr0
    by_cases hc : chg most L r = true
    · have h3 : 0 ≤ totF L r.r 0 ∧ lgt L r.l < min (totF L r.r 0) most := by simpa [chg] using hc
      have h4 := stepR_at W (most := most) hr0 hL h3.1
      have h5 := roundR_le most rs (stepR most L r) r.l
      refine ⟨r.l.toNat, ?_⟩
      show lgt L r.l < lgt (roundR most rs (stepR most L r)) r.l
      omega
    · have e : stepR most L r = L := if_neg (by simpa [chg] using hc)
      obtain ⟨b, hb⟩ := anyC_lt W (rs := rs) (L := L) (fun r q => hr r (by simp [q])) hL (by rw [← e]; exact h.resolve_left hc)
      exact ⟨b, by rw [roundR, List.foldl_cons, e]; exact hb⟩
theorem round_sum {g : Gr} (W : VG g) {most : Int} {L : List Int} (hL : L.length = g.ns.toNat) (h : anyC most g.rs L = true) : L.sum < (roundR most g.rs L).sum := by
  obtain ⟨b, hb⟩ := anyC_lt W (fun r q => q) hL h
  exact lgt_sum_lt (roundR_len _ _ _).symm (fun a => roundR_le most g.rs L (a : Int)) hb
theorem sum_top : ∀ {L : List Int}, (∀ x ∈ L, x ≤ 1) → L.sum ≤ L.length
  | [], _ => by simp
  | x :: L, h => by
    have h1 := sum_top (L := L) fun y q => h y (by simp [q])
    have h2 := h x (by simp)
    simp
    omega
theorem round_top {most : Int} {N : Int} (hm : most ≤ N) : ∀ (rs : List Ru) {L : List Int}, (∀ x ∈ L, x ≤ N) → ∀ x ∈ roundR most rs L, x ≤ N
  | [], L, h => h
  | r :: rs, L, h => by
    rw [roundR, List.foldl_cons]
    refine round_top hm rs (L := stepR most L r) ?_
    unfold stepR
    split
    · intro x hx
      rcases List.mem_or_eq_of_mem_set hx with q | rfl
      · exact h x q
      · omega
    · exact h
end Go.Proofs.Ytniobbepliknmaa.V
/- The text of parlance/lens.total as a statement (slots: 0 l, 1 long, 2 l, 3 long, 5 n, 6 _, 7 s); no condition. -/
namespace Go.Proofs.Ytniobbepliknmaa.V
open Go
def S122_1 : Stmt :=
  Stmt.block 1
  (Stmt.seq
    (Stmt.region
      [SOper.mk (some 12) none (SOp.idx 2 (Operand.tmp 8) (Operand.tmp 10)),
        SOper.mk (some 13) none (SOp.load true 2 (Operand.tmp 12)),
        SOper.mk (some 7) none (SOp.alloc true 39 (Value.agg (Array.mk [Value.bool false, Value.int IntKind.i64 0]))),
        SOper.mk none none (SOp.store 2 (Operand.tmp 7) (Operand.tmp 13))]
      [1, 5, 7, 8, 9, 10])
    (Stmt.block 2
      (Stmt.seq
        (Stmt.region
          [SOper.mk (some 22) none (SOp.fld 0 (Operand.tmp 7)),
            SOper.mk (some 23) none (SOp.load false 1 (Operand.tmp 22)),
            SOper.mk (some 21) none (SOp.mv (Operand.tmp 23))]
          [1, 5, 7, 8, 9, 10, 21])
        (Stmt.cond (Operand.tmp 21)
          (Stmt.region
            [SOper.mk (some 24) none (SOp.mv (Operand.tmp 5)),
              SOper.mk (some 25) none (SOp.ibin BinOp.add (Operand.tmp 24) (Operand.const (Value.int IntKind.i64 1))),
              SOper.mk (some 5) none (SOp.mv (Operand.tmp 25))]
            [1, 5, 8, 9, 10])
          (Stmt.seq
            (Stmt.region
              [SOper.mk (some 27) none (SOp.mv (Operand.tmp 1)), SOper.mk (some 28) none (SOp.fld 1 (Operand.tmp 7)),
                SOper.mk (some 29) none (SOp.load false 1 (Operand.tmp 28)),
                SOper.mk (some 30) none (SOp.idx 1 (Operand.tmp 27) (Operand.tmp 29)),
                SOper.mk (some 31) none (SOp.load false 1 (Operand.tmp 30)),
                SOper.mk (some 32) none (SOp.ibin BinOp.lss (Operand.tmp 31) (Operand.const (Value.int IntKind.i64 0))),
                SOper.mk (some 26) none (SOp.mv (Operand.tmp 32))]
              [1, 5, 7, 8, 9, 10, 26])
            (Stmt.cond (Operand.tmp 26)
              (Stmt.seq (Stmt.region [SOper.mk (some 4) none (SOp.mv (Operand.const (Value.int IntKind.i64 (-1))))] [4])
                Stmt.ret)
              (Stmt.region
                [SOper.mk (some 14) none (SOp.mv (Operand.tmp 5)), SOper.mk (some 15) none (SOp.mv (Operand.tmp 1)),
                  SOper.mk (some 16) none (SOp.fld 1 (Operand.tmp 7)),
                  SOper.mk (some 17) none (SOp.load false 1 (Operand.tmp 16)),
                  SOper.mk (some 18) none (SOp.idx 1 (Operand.tmp 15) (Operand.tmp 17)),
                  SOper.mk (some 19) none (SOp.load false 1 (Operand.tmp 18)),
                  SOper.mk (some 20) none (SOp.ibin BinOp.add (Operand.tmp 14) (Operand.tmp 19)),
                  SOper.mk (some 5) none (SOp.mv (Operand.tmp 20))]
                [1, 5, 8, 9, 10])))))))
def S122_2 : Stmt :=
  Stmt.region
  [SOper.mk (some 33) none (SOp.ibin BinOp.add (Operand.tmp 10) (Operand.const (Value.int IntKind.i64 1))),
    SOper.mk (some 10) none (SOp.mv (Operand.tmp 33))]
  [1, 5, 8, 9, 10]
def S122_3 : Stmt :=
  Stmt.seq
  (Stmt.region [SOper.mk (some 11) none (SOp.ibin BinOp.lss (Operand.tmp 10) (Operand.tmp 9))] [1, 5, 8, 9, 10, 11])
  (Stmt.seq (Stmt.cond (Operand.tmp 11) Stmt.skip (Stmt.exit 0)) (Stmt.join S122_1 S122_2 [5] [1, 8, 9, 10]))
def S122_0 : Stmt :=
  Stmt.seq (Stmt.region [SOper.mk (some 4) none (SOp.mv (Operand.const (Value.int IntKind.i64 0)))] [0, 1])
  (Stmt.seq (Stmt.region [SOper.mk (some 5) none (SOp.mv (Operand.const (Value.int IntKind.i64 0)))] [0, 1, 5])
    (Stmt.seq
      (Stmt.seq
        (Stmt.region
          [SOper.mk (some 8) none (SOp.mv (Operand.tmp 0)), SOper.mk (some 9) none (SOp.len false (Operand.tmp 8)),
            SOper.mk (some 10) none (SOp.mv (Operand.const (Value.int IntKind.i64 0)))]
          [1, 5, 8, 9, 10])
        (Stmt.block 0 (Stmt.loop S122_3 [5, 10] [1, 8, 9])))
      (Stmt.seq
        (Stmt.region
          [SOper.mk (some 34) none (SOp.mv (Operand.tmp 5)), SOper.mk (some 4) none (SOp.mv (Operand.tmp 34))] [4])
        Stmt.ret)))
def S122 : FnS := ⟨35, [(4, none)], S122_0⟩
theorem tr122 : trFn Try.prog 122 [7] [[0, 1], [0, 1, 5], [1, 5, 8, 9, 10], [5, 10], [1, 8, 9], [1, 5, 8, 9, 10, 11], [5], [1, 8, 9, 10], [1, 5, 7, 8, 9, 10], [1, 5, 7, 8, 9, 10, 21], [1, 5, 8, 9, 10], [1, 5, 7, 8, 9, 10, 26], [4], [1, 5, 8, 9, 10], [1, 5, 8, 9, 10], [4]] = some S122 := by kernel_rfl
end Go.Proofs.Ytniobbepliknmaa.V
/- The text of parlance/lens.Greatest$1 as a statement (slots: 0 most, 3 most, 5 again, 6 _, 7 r, 8 n); no condition. -/
namespace Go.Proofs.Ytniobbepliknmaa.V
open Go
def S121_1 : Stmt :=
  Stmt.block 1
  (Stmt.seq
    (Stmt.region
      [SOper.mk (some 14) none (SOp.idx 2 (Operand.tmp 10) (Operand.tmp 12)),
        SOper.mk (some 15) none (SOp.load true 2 (Operand.tmp 14)),
        SOper.mk (some 7) none
          (SOp.alloc true 37 (Value.agg (Array.mk [Value.int IntKind.i64 0, Value.slice none 0 0]))),
        SOper.mk none none (SOp.store 2 (Operand.tmp 7) (Operand.tmp 15))]
      [0, 2, 5, 7, 10, 11, 12])
    (Stmt.seq
      (Stmt.region
        [SOper.mk (some 16) none (SOp.fld 1 (Operand.tmp 7)),
          SOper.mk (some 17) none (SOp.load false 1 (Operand.tmp 16)),
          SOper.mk (some 18) none (SOp.load false 1 (Operand.tmp 2)),
          SOper.mk (some 19) none (SOp.call (Operand.func 122) [Operand.tmp 17, Operand.tmp 18]),
          SOper.mk (some 8) none (SOp.mv (Operand.tmp 19))]
        [0, 2, 5, 7, 8, 10, 11, 12])
      (Stmt.seq
        (Stmt.region
          [SOper.mk (some 20) none (SOp.mv (Operand.tmp 8)),
            SOper.mk (some 21) none (SOp.ibin BinOp.geq (Operand.tmp 20) (Operand.const (Value.int IntKind.i64 0))),
            SOper.mk (some 22) none (SOp.mv (Operand.tmp 21)),
            SOper.mk (some 23) (some (22, true)) (SOp.mv (Operand.tmp 8)),
            SOper.mk (some 24) (some (22, true)) (SOp.mv (Operand.tmp 0)),
            SOper.mk (some 25) (some (22, true)) (SOp.fn Fk.min [Operand.tmp 23, Operand.tmp 24]),
            SOper.mk (some 26) (some (22, true)) (SOp.load false 1 (Operand.tmp 2)),
            SOper.mk (some 27) (some (22, true)) (SOp.fld 0 (Operand.tmp 7)),
            SOper.mk (some 28) (some (22, true)) (SOp.load false 1 (Operand.tmp 27)),
            SOper.mk (some 29) (some (22, true)) (SOp.idx 1 (Operand.tmp 26) (Operand.tmp 28)),
            SOper.mk (some 30) (some (22, true)) (SOp.load false 1 (Operand.tmp 29)),
            SOper.mk (some 31) (some (22, true)) (SOp.ibin BinOp.gtr (Operand.tmp 25) (Operand.tmp 30)),
            SOper.mk (some 32) none (SOp.pick (Operand.tmp 22) (Operand.tmp 31) (Operand.const (Value.bool false)))]
          [0, 2, 5, 7, 8, 10, 11, 12, 32])
        (Stmt.cond (Operand.tmp 32)
          (Stmt.region
            [SOper.mk (some 33) none (SOp.load false 1 (Operand.tmp 2)),
              SOper.mk (some 34) none (SOp.fld 0 (Operand.tmp 7)),
              SOper.mk (some 35) none (SOp.load false 1 (Operand.tmp 34)),
              SOper.mk (some 36) none (SOp.mv (Operand.tmp 8)), SOper.mk (some 37) none (SOp.mv (Operand.tmp 0)),
              SOper.mk (some 38) none (SOp.fn Fk.min [Operand.tmp 36, Operand.tmp 37]),
              SOper.mk (some 39) none (SOp.idx 1 (Operand.tmp 33) (Operand.tmp 35)),
              SOper.mk none none (SOp.store 1 (Operand.tmp 39) (Operand.tmp 38)),
              SOper.mk (some 5) none (SOp.mv (Operand.const (Value.bool true)))]
            [0, 2, 5, 10, 11, 12])
          Stmt.skip))))
def S121_2 : Stmt :=
  Stmt.region
  [SOper.mk (some 40) none (SOp.ibin BinOp.add (Operand.tmp 12) (Operand.const (Value.int IntKind.i64 1))),
    SOper.mk (some 12) none (SOp.mv (Operand.tmp 40))]
  [0, 2, 5, 10, 11, 12]
def S121_3 : Stmt :=
  Stmt.seq
  (Stmt.region [SOper.mk (some 13) none (SOp.ibin BinOp.lss (Operand.tmp 12) (Operand.tmp 11))]
    [0, 2, 5, 10, 11, 12, 13])
  (Stmt.seq (Stmt.cond (Operand.tmp 13) Stmt.skip (Stmt.exit 0)) (Stmt.join S121_1 S121_2 [5] [0, 2, 10, 11, 12]))
def S121_0 : Stmt :=
  Stmt.seq (Stmt.region [SOper.mk (some 4) none (SOp.mv (Operand.const (Value.bool false)))] [0, 1, 2])
  (Stmt.seq (Stmt.region [SOper.mk (some 5) none (SOp.mv (Operand.const (Value.bool false)))] [0, 1, 2, 5])
    (Stmt.seq
      (Stmt.seq
        (Stmt.region
          [SOper.mk (some 9) none (SOp.fld 3 (Operand.tmp 1)),
            SOper.mk (some 10) none (SOp.load false 1 (Operand.tmp 9)),
            SOper.mk (some 11) none (SOp.len false (Operand.tmp 10)),
            SOper.mk (some 12) none (SOp.mv (Operand.const (Value.int IntKind.i64 0)))]
          [0, 2, 5, 10, 11, 12])
        (Stmt.block 0 (Stmt.loop S121_3 [5, 12] [0, 2, 10, 11])))
      (Stmt.seq
        (Stmt.region
          [SOper.mk (some 41) none (SOp.mv (Operand.tmp 5)), SOper.mk (some 4) none (SOp.mv (Operand.tmp 41))] [4])
        Stmt.ret)))
def S121 : FnS := ⟨42, [(4, none)], S121_0⟩
theorem tr121 : trFn Try.prog 121 [7] [[0, 1, 2], [0, 1, 2, 5], [0, 2, 5, 10, 11, 12], [5, 12], [0, 2, 10, 11], [0, 2, 5, 10, 11, 12, 13], [5], [0, 2, 10, 11, 12], [0, 2, 5, 7, 10, 11, 12], [0, 2, 5, 7, 8, 10, 11, 12], [0, 2, 5, 7, 8, 10, 11, 12, 32], [0, 2, 5, 10, 11, 12], [0, 2, 5, 10, 11, 12], [4]] = some S121 := by kernel_rfl
end Go.Proofs.Ytniobbepliknmaa.V
/- The text of parlance/lens.square as a statement (slots: 0 n, 1 n, 3 out, 4 i); no condition. -/
namespace Go.Proofs.Ytniobbepliknmaa.V
open Go
def S176_1 : Stmt :=
  Stmt.seq (Stmt.region [SOper.mk (some 10) none (SOp.ibin BinOp.lss (Operand.tmp 9) (Operand.tmp 8))] [0, 3, 8, 9, 10])
  (Stmt.seq (Stmt.cond (Operand.tmp 10) Stmt.skip (Stmt.exit 0))
    (Stmt.seq
      (Stmt.block 1
        (Stmt.seq
          (Stmt.region
            [SOper.mk (some 11) none (SOp.mv (Operand.tmp 9)), SOper.mk (some 4) none (SOp.mv (Operand.tmp 11))]
            [0, 3, 4, 8, 9])
          (Stmt.region
            [SOper.mk (some 12) none (SOp.mv (Operand.tmp 3)), SOper.mk (some 13) none (SOp.mv (Operand.tmp 4)),
              SOper.mk (some 14) none (SOp.mv (Operand.tmp 0)),
              SOper.mk (some 15) none (SOp.mk 4 1 1 (Value.bool false) (Operand.tmp 14) (Operand.tmp 14)),
              SOper.mk (some 16) none (SOp.idx 1 (Operand.tmp 12) (Operand.tmp 13)),
              SOper.mk none none (SOp.store 1 (Operand.tmp 16) (Operand.tmp 15))]
            [0, 3, 8, 9])))
      (Stmt.region
        [SOper.mk (some 17) none (SOp.ibin BinOp.add (Operand.tmp 9) (Operand.const (Value.int IntKind.i64 1))),
          SOper.mk (some 9) none (SOp.mv (Operand.tmp 17))]
        [0, 3, 8, 9])))
def S176_0 : Stmt :=
  Stmt.seq (Stmt.region [SOper.mk (some 2) none (SOp.mv (Operand.const (Value.slice none 0 0)))] [0])
  (Stmt.seq
    (Stmt.region
      [SOper.mk (some 5) none (SOp.mv (Operand.tmp 0)),
        SOper.mk (some 6) none (SOp.mk 22 1 24 (Value.slice none 0 0) (Operand.tmp 5) (Operand.tmp 5)),
        SOper.mk (some 3) none (SOp.mv (Operand.tmp 6))]
      [0, 3])
    (Stmt.seq
      (Stmt.seq
        (Stmt.region
          [SOper.mk (some 7) none (SOp.mv (Operand.tmp 3)), SOper.mk (some 8) none (SOp.len false (Operand.tmp 7)),
            SOper.mk (some 9) none (SOp.mv (Operand.const (Value.int IntKind.i64 0)))]
          [0, 3, 8, 9])
        (Stmt.block 0 (Stmt.loop S176_1 [9] [0, 3, 8])))
      (Stmt.seq
        (Stmt.region
          [SOper.mk (some 18) none (SOp.mv (Operand.tmp 3)), SOper.mk (some 2) none (SOp.mv (Operand.tmp 18))] [2])
        Stmt.ret)))
def S176 : FnS := ⟨19, [(2, none)], S176_0⟩
theorem tr176 : trFn Try.prog 176 [] [[0], [0, 3], [0, 3, 8, 9], [9], [0, 3, 8], [0, 3, 8, 9, 10], [0, 3, 4, 8, 9], [0, 3, 8, 9], [0, 3, 8, 9], [2]] = some S176 := by kernel_rfl
end Go.Proofs.Ytniobbepliknmaa.V
/- The longest word: lens.total, a round, and lens.square walked; no condition. -/
namespace Go.Proofs.Ytniobbepliknmaa.V
open Go
set_option linter.unusedVariables false
set_option linter.unusedSimpArgs false
attribute [local go_sem] e_seq e_region e_quiet e_join e_loop e_cond e_block e_exit e_ret e_skip e_fin e_kseq e_snrm e_sret e_sex e_bnrm e_bret e_bex e_rnrm e_rret e_res e_condC e_nil e_g e_mv g_mv e_pick g_pick pickC_eq e_ibin g_ibin ibinC_eq e_sbin g_sbin e_beq g_beq beqC_eq e_nilq g_nilq nilqC_sl nilqC_pt nilqC_mp e_un g_un unC_not unC_neg e_conv g_conv convC_eq e_fld g_fld fldC_ref fldC_ptr e_nilCheck g_nilCheck nilCheckC_ref nilCheckC_ptr nilCheckC_fun e_field g_field fieldC_eq e_len g_len lenC_sl lenC_str e_extract g_extract extractC_eq e_mkFunc e_build g_build e_idiv g_idiv idivC_eq e_ishift g_ishift ishiftC_eq e_idx g_idx e_idxA g_idxA e_load g_load loadC_ref loadC_ptr loadB_eq e_slc g_slc e_box boxC_loc boxC_esc e_alloc allocC_loc allocC_esc e_buildS e_store storeC_ref storeC_ptr storeB_eq e_append e_appz e_mk mkC_eq e_call callC_eq e_fn g_fn fnC_eq fnV_min' fnV_max' fnV_rune' e_q g_q e_a e_n g_call g_box g_alloc g_buildS g_store g_append g_mk g_a g_n g_dead e_dead e_callK e_drawn e_tree e_finJ e_tk e_tfin e_tno e_nbt_q e_nbt_qn e_nbt_a e_nbt_an e_nbt_fin e_early_nil e_early_t e_early_f e_nob_nil e_nob_none e_nob_some isBox_dead isBox_v isBox_ref e_dnil e_dk e_ek e_finB vcOps_vc1 e_dcons e_tq e_ekt e_tearly e_talt e_dearly look_nil look_c proj_nil proj_c looks_nil looks_c zip_nil zip_c val_tmp val_const val_func slv_v slv_box slv_ref slot_tmp slot_const slot_func slotL_v slotL_box slotL_ref put_some put_none updBox_c boxSet_box gd_eq slotVals_nil slotVals_c slotVals_b boxV_box boxOn_box slotsOn_nil slotsOn_c slotsOn_b resV_one resV_two vals_nil vals_c allOn_nil allOn_c partOn_nil partOn_c partVals_nil partVals_c fits_nil fits_c fillL_nil fillL_c mkv_one mkv_agg cellsV_agg cellsV_int cellsV_bool cellsV_slice cellsV_string cellsV_pointer cellsV_func cellsV_nilf cellsV_map one'_nil one'_c oc_int oc_bool oc_slice oc_string oc_pointer oc_func oc_nilf oc_map setC_eq iv_add iv_sub iv_mul iv_eql iv_neq iv_lss iv_leq iv_gtr iv_geq iok_add iok_sub iok_mul iok_eql iok_neq iok_lss iok_leq iok_gtr iok_geq pickV_bool args0_nil args0_c bnd_none bnd_some imp_bt imp_bf imp_ebt imp_ebf imp_eb1 imp_np imp_pp beq_tt beq_tf beq_ft beq_ff cond_or cond_and e_round e_meet Int.le_refl Int.toNat_zero decide_true decide_false Bool.or_false Bool.false_or Bool.true_or Bool.or_true Bool.and_false Bool.false_and Bool.bne_false Bool.bne_true beq_iff_eq Int.cast_ofNat_Int not_false_eq_true not_true_eq_false false_and and_false false_implies true_implies true_and and_true Bool.true_and Bool.and_true Bool.not_true Bool.not_false forall_const implies_true List.take_zero List.drop_zero List.take_succ_cons List.drop_succ_cons List.take_nil List.drop_nil List.length_cons List.length_nil List.nil_append List.append_nil List.cons_append Int.toNat_natCast decide_eq_true_eq decide_eq_false_iff_not cond_true cond_false and_self List.getElem?_cons_zero List.getElem?_cons_succ List.set_cons_zero List.set_cons_succ Option.some.injEq exists_eq_left' Nat.zero_add Nat.add_zero Nat.mul_one imp_self true_or or_true or_false false_or Bool.or_eq_true Bool.or_eq_false_iff Bool.and_eq_true Bool.and_eq_false_iff Bool.not_eq_true' Bool.not_eq_false'

theorem lens_square {Γr : Ctx} (a : Nat) (ha : a ≤ 1000) :
    Ret Try.prog 176 [.int .i64 a] Γr [] (fun v Γ => ∃ g b, Γ = [g] ∧ v = .slice (some ⟨b, 0, none⟩) a a ∧ Grid g b 22 4 (List.replicate a (List.replicate a false))) := by
  generalize hR : (fun (v : Value) (Γ : Ctx) => ∃ g b, _) = R
  refine ret_of_vc tr176 (Nat.le_of_ble_eq_true rfl) ?_
  simp -implicitDefEqProofs only [S176, S176_0, go_sem, Nat.reduceBEq, Nat.reduceAdd, Nat.reduceSub, Nat.reduceMul, Nat.reduceLeDiff, reduceCtorEq, ↓reduceIte, Int.reduceLT, Int.reduceLE, Int.reduceEq, Int.reduceNe]
  refine ⟨by omega, by omega, fun b => ?_⟩
  refine s_loop (fun f vs Γ => ∃ g, Γ = [g] ∧ ∃ k : Nat, vs = [.v true (.int .i64 k)] ∧ k + f = a ∧ Grid g b 22 4 (part false a a k)) a
    (Up.here ⟨_, rfl, 0, rfl, by omega, by have := Grid.made (α := Bool) b 22 4 (m := a) (by omega); simpa [part] using this⟩) ?_
  rintro f vs Γ ⟨g, rfl, k, rfl, hkf, hG⟩
  simp -implicitDefEqProofs only [S176_1, go_sem, Nat.reduceBEq, Nat.reduceAdd, Nat.reduceSub, Nat.reduceMul, Nat.reduceLeDiff, reduceCtorEq, ↓reduceIte, Int.reduceLT, Int.reduceLE, Int.reduceEq, Int.reduceNe]
  refine ⟨fun hlt => ?_, fun hge => ?_⟩
  · have hk : k < a := by omega
    refine ⟨by omega, by omega, fun b2 => ?_⟩
    refine s_idx rfl (by omega) (by omega) ?_
    simp -implicitDefEqProofs only [go_sem, Nat.reduceBEq, Nat.reduceAdd, Nat.reduceSub, Nat.reduceMul, Nat.reduceLeDiff, reduceCtorEq, ↓reduceIte, Int.reduceLT, Int.reduceLE, Int.reduceEq, Int.reduceNe]
    refine s_storeG (ix := 1) (k := b2) (List.replicate a false) (by simp) rfl hG (by rw [part_len _ (by omega)]; omega) (by simp; omega) ?_
    intro g' hput
    simp -implicitDefEqProofs only [go_sem, Nat.reduceBEq, Nat.reduceAdd, Nat.reduceSub, Nat.reduceMul, Nat.reduceLeDiff, reduceCtorEq, ↓reduceIte, Int.reduceLT, Int.reduceLE, Int.reduceEq, Int.reduceNe]
    simp (disch := omega) only [wrap_id]
    refine ⟨f - 1, by omega, Up.apart fun hd => Up.one fun G hG' => ⟨_, rfl, k + 1, rfl, by omega, ?_⟩⟩
    rw [← part_set _ hk]
    exact hput _ _ (Arr.made false b2 4 a) ((List.pairwise_cons.1 hd).1 g' (by simp)) hG'
  · have hk : k = a := by omega
    subst hk
    refine Up.here ?_
    subst hR
    exact ⟨_, b, rfl, rfl, by simpa [part] using hG⟩

/-- numbers that are not large -/
def Few (L : List Int) : Prop := ∀ x ∈ L, -1 ≤ x ∧ x ≤ 1099511627776
theorem Few.at' {L : List Int} (h : Few L) {i : Nat} (hi : i < L.length) : -1 ≤ L[i] ∧ L[i] ≤ 1099511627776 := h _ (List.getElem_mem hi)
theorem lens_total {Γr : Ctx} {l : List Sy} {L : List Int} {A B : Option Addr} {c d : Nat} (hx : SlOk (lk Γr) A c l) (hL : SlOk (lk Γr) B d L) (hl : l.length ≤ 4) (hs : ∀ s ∈ l, s.t = false → 0 ≤ s.n ∧ s.n < L.length) (hb : Few L) :
    Ret Try.prog 122 [.slice A l.length c, .slice B L.length d] Γr [] (fun v Γ => Γ = [] ∧ v = .int .i64 (totF L l 0)) := by
  generalize hR : (fun (v : Value) (Γ : Ctx) => Γ = [] ∧ v = Value.int .i64 (totF L l 0)) = R
  refine ret_of_vc tr122 (Nat.le_of_ble_eq_true rfl) ?_
  simp -implicitDefEqProofs only [S122, S122_0, go_sem, Nat.reduceBEq, Nat.reduceAdd, Nat.reduceSub, Nat.reduceMul, Nat.reduceLeDiff, reduceCtorEq, ↓reduceIte, Int.reduceLT, Int.reduceLE, Int.reduceEq, Int.reduceNe]
  refine s_loop (fun f vs Γ => Γ = [] ∧ ∃ (k : Nat) (n : Int), vs = [.v true (.int .i64 n), .v true (.int .i64 k)] ∧ k + f = l.length ∧ 0 ≤ n ∧ n ≤ k * 1099511627776 ∧ totF L l 0 = totF L (l.drop k) n) l.length
    (Up.here ⟨rfl, 0, 0, rfl, by omega, by omega, by omega, by simp⟩) ?_
  rintro f vs Γ ⟨rfl, k, n, rfl, hkf, h0, h1, he⟩
  simp -implicitDefEqProofs only [S122_3, go_sem, Nat.reduceBEq, Nat.reduceAdd, Nat.reduceSub, Nat.reduceMul, Nat.reduceLeDiff, reduceCtorEq, ↓reduceIte, Int.reduceLT, Int.reduceLE, Int.reduceEq, Int.reduceNe]
  refine ⟨fun hlt => ?_, fun hge => ?_⟩
  · have hk : k < l.length := by omega
    rw [List.drop_eq_getElem_cons hk] at he
    have hsk := hs _ (List.getElem_mem hk)
    obtain ⟨b1, o1, hA1, hc1⟩ := hx.sy hk
    refine s_split ?_
    simp -implicitDefEqProofs only [S122_1, S122_2, go_sem, Nat.reduceBEq, Nat.reduceAdd, Nat.reduceSub, Nat.reduceMul, Nat.reduceLeDiff, reduceCtorEq, ↓reduceIte, Int.reduceLT, Int.reduceLE, Int.reduceEq, Int.reduceNe]
    refine s_idx hA1 (by omega) (by omega) ?_
    simp -implicitDefEqProofs only [go_sem, Nat.reduceBEq, Nat.reduceAdd, Nat.reduceSub, Nat.reduceMul, Nat.reduceLeDiff, reduceCtorEq, ↓reduceIte, Int.reduceLT, Int.reduceLE, Int.reduceEq, Int.reduceNe]
    refine s_ld0 (hc1 _ (lk_r _ _)) (by simp) (by simp) ?_
    simp -implicitDefEqProofs only [go_sem, Nat.reduceBEq, Nat.reduceAdd, Nat.reduceSub, Nat.reduceMul, Nat.reduceLeDiff, reduceCtorEq, ↓reduceIte, Int.reduceLT, Int.reduceLE, Int.reduceEq, Int.reduceNe]
    intro b2
    simp only [totF] at he
    refine ⟨fun ht => ?_, fun ht => ?_⟩
    · rw [if_pos ht] at he
      simp (disch := omega) only [wrap_id]
      exact Up.here ⟨f - 1, by omega, Up.here ⟨rfl, k + 1, n + 1, rfl, by omega, by omega, by omega, he⟩⟩
    · rw [if_neg (by simp [ht])] at he
      have hsk := hsk ht
      obtain ⟨m, hm⟩ : ∃ m : Nat, l[k].n = m := ⟨l[k].n.toNat, by omega⟩
      rw [hm] at he ⊢
      have hmL : m < L.length := by omega
      have hlg : lgt L m = L[m] := by simp [lgt, hmL]
      have hbm := hb.at' hmL
      obtain ⟨b3, o3, hA3, hc3⟩ := hL.int hmL
      refine s_idx hA3 (by omega) (by omega) ?_
      simp -implicitDefEqProofs only [go_sem, Nat.reduceBEq, Nat.reduceAdd, Nat.reduceSub, Nat.reduceMul, Nat.reduceLeDiff, reduceCtorEq, ↓reduceIte, Int.reduceLT, Int.reduceLE, Int.reduceEq, Int.reduceNe]
      refine s_ld0 (hc3 _ (lk_r _ _)) (by simp) (by simp) ?_
      simp -implicitDefEqProofs only [go_sem, Nat.reduceBEq, Nat.reduceAdd, Nat.reduceSub, Nat.reduceMul, Nat.reduceLeDiff, reduceCtorEq, ↓reduceIte, Int.reduceLT, Int.reduceLE, Int.reduceEq, Int.reduceNe]
      refine ⟨fun hneg => ?_, fun hpos => ?_⟩
      · rw [if_pos (by rw [hlg]; exact hneg)] at he
        refine Up.here ?_
        subst hR
        exact ⟨rfl, by rw [he]⟩
      · rw [if_neg (by rw [hlg]; exact hpos), hlg] at he
        refine s_idx hA3 (by omega) (by omega) ?_
        simp -implicitDefEqProofs only [go_sem, Nat.reduceBEq, Nat.reduceAdd, Nat.reduceSub, Nat.reduceMul, Nat.reduceLeDiff, reduceCtorEq, ↓reduceIte, Int.reduceLT, Int.reduceLE, Int.reduceEq, Int.reduceNe]
        refine s_ld0 (hc3 _ (lk_r _ _)) (by simp) (by simp) ?_
        simp -implicitDefEqProofs only [go_sem, Nat.reduceBEq, Nat.reduceAdd, Nat.reduceSub, Nat.reduceMul, Nat.reduceLeDiff, reduceCtorEq, ↓reduceIte, Int.reduceLT, Int.reduceLE, Int.reduceEq, Int.reduceNe]
        simp (disch := omega) only [wrap_id]
        exact Up.here ⟨f - 1, by omega, Up.here ⟨rfl, k + 1, n + L[m], rfl, by omega, by omega, by omega, he⟩⟩
  · have hk : k = l.length := by omega
    subst hk
    refine Up.here ?_
    subst hR
    rw [List.drop_length] at he
    exact ⟨rfl, by rw [he]; rfl⟩
theorem go_min (a b : Int) : (if b < a then b else a) = min a b := by omega
theorem few_step {most : Int} (h0 : 0 ≤ most) (hm : most ≤ 1099511627776) {L : List Int} (h : Few L) (r : Ru) : Few (stepR most L r) := by
  unfold stepR
  split
  · intro x hx
    rcases List.mem_or_eq_of_mem_set hx with q | rfl
    · exact h x q
    · omega
  · exact h
theorem lens_step {Γr : Ctx} {gl : PH} {g : Gr} {A : Option Addr} {c : Nat} (hx : SlOk (lk Γr) A c g.rs) (V : VG g) {pg pl b a : Nat} (hg : lk Γr pg (.cells [.int .i64 g.ts, .int .i64 g.ns, .int .i64 g.st, .slice A g.rs.length c].toArray 57 (0, 0)))
    (hp : lk Γr pl (.cells [.slice (some ⟨b, 0, none⟩) a a].toArray 29 (0, 0))) {L : List Int} (hA : Arr gl b 3 L) (hLl : L.length = g.ns.toNat) (ha : a = L.length) (hb : Few L) (most : Int) (h0 : 0 ≤ most) (hm : most ≤ 1099511627776) :
    Ret Try.prog 121 [.int .i64 most, .pointer (some ⟨pg, 0, none⟩), .pointer (some ⟨pl, 0, none⟩)] Γr [gl] (fun v Γ => ∃ gl', Γ = [gl'] ∧ v = .bool (anyC most g.rs L) ∧ Arr gl' b 3 (roundR most g.rs L) ∧ Few (roundR most g.rs L)) := by
  generalize hR : (fun (v : Value) (Γ : Ctx) => ∃ gl', _) = R
  refine ret_of_vc tr121 (Nat.le_of_ble_eq_true rfl) ?_
  subst ha
  simp -implicitDefEqProofs only [S121, S121_0, go_sem, Nat.reduceBEq, Nat.reduceAdd, Nat.reduceSub, Nat.reduceMul, Nat.reduceLeDiff, reduceCtorEq, ↓reduceIte, Int.reduceLT, Int.reduceLE, Int.reduceEq, Int.reduceNe]
  refine s_ld (j := 3) (cells_lk (lk_r _ _ _ _ hg)) (by simp) (by simp) ?_
  simp -implicitDefEqProofs only [go_sem, Nat.reduceBEq, Nat.reduceAdd, Nat.reduceSub, Nat.reduceMul, Nat.reduceLeDiff, reduceCtorEq, ↓reduceIte, Int.reduceLT, Int.reduceLE, Int.reduceEq, Int.reduceNe]
  refine s_loop (fun f vs Γ => ∃ gl, Γ = [gl] ∧ ∃ (k : Nat) (L1 : List Int) (ag : Bool), vs = [.v true (.bool ag), .v true (.int .i64 k)] ∧ k + f = g.rs.length ∧ Arr gl b 3 L1 ∧ L1.length = L.length ∧ Few L1 ∧ roundR most g.rs L = roundR most (g.rs.drop k) L1 ∧ anyC most g.rs L = (ag || anyC most (g.rs.drop k) L1)) g.rs.length
    (Up.here ⟨_, rfl, 0, L, false, rfl, by omega, hA, rfl, hb, by simp, by simp⟩) ?_
  rintro f vs Γ ⟨gl, rfl, k, L1, ag, rfl, hkf, hA1, hl1, hb1, hr1, hc1⟩
  simp -implicitDefEqProofs only [S121_3, go_sem, Nat.reduceBEq, Nat.reduceAdd, Nat.reduceSub, Nat.reduceMul, Nat.reduceLeDiff, reduceCtorEq, ↓reduceIte, Int.reduceLT, Int.reduceLE, Int.reduceEq, Int.reduceNe]
  have hns := V.ns
  have hvl := V.len
  refine ⟨fun hlt => ?_, fun hge => ?_⟩
  · have hk : k < g.rs.length := by omega
    rw [List.drop_eq_getElem_cons hk] at hr1 hc1
    have hmem : g.rs[k] ∈ g.rs := List.getElem_mem hk
    have hleft := V.left _ hmem
    have hr4 := V.right _ hmem
    have hsym := V.sym _ hmem
    obtain ⟨b1, o1, hA2, A3, c3, hr3, hc2⟩ := hx.ru hk
    generalize g.rs[k] = r at *
    obtain ⟨m, hml⟩ : ∃ m : Nat, r.l = m := ⟨r.l.toNat, by omega⟩
    have hmL : m < L1.length := by omega
    have hlg : lgt L1 r.l = L1[m] := by rw [hml]; simp [lgt, hmL]
    have hbm := hb1.at' hmL
    refine s_split ?_
    simp -implicitDefEqProofs only [S121_1, S121_2, go_sem, Nat.reduceBEq, Nat.reduceAdd, Nat.reduceSub, Nat.reduceMul, Nat.reduceLeDiff, reduceCtorEq, ↓reduceIte, Int.reduceLT, Int.reduceLE, Int.reduceEq, Int.reduceNe]
    refine s_idx hA2 (by omega) (by omega) ?_
    simp -implicitDefEqProofs only [go_sem, Nat.reduceBEq, Nat.reduceAdd, Nat.reduceSub, Nat.reduceMul, Nat.reduceLeDiff, reduceCtorEq, ↓reduceIte, Int.reduceLT, Int.reduceLE, Int.reduceEq, Int.reduceNe]
    refine s_ld0 (hc2 _ (lk_r _ _)) (by simp) (by simp) ?_
    simp -implicitDefEqProofs only [go_sem, Nat.reduceBEq, Nat.reduceAdd, Nat.reduceSub, Nat.reduceMul, Nat.reduceLeDiff, reduceCtorEq, ↓reduceIte, Int.reduceLT, Int.reduceLE, Int.reduceEq, Int.reduceNe]
    intro b2
    refine s_ld0 (cells_lk (lk_r _ _ _ _ hp)) (by simp) (by simp) ?_
    simp -implicitDefEqProofs only [go_sem, Nat.reduceBEq, Nat.reduceAdd, Nat.reduceSub, Nat.reduceMul, Nat.reduceLeDiff, reduceCtorEq, ↓reduceIte, Int.reduceLT, Int.reduceLE, Int.reduceEq, Int.reduceNe]
    rw [← hl1]
    refine CallVC.read (lens_total (hr3.mono (lk_r _ _)) (hA1.slok (lk_sub (by simp)) (Nat.le_refl _) (by unfold maxLen; omega) (by omega)) hr4 (fun s hs ht => by have := hsym s hs; have := this.2.2 ht; omega) hb1) ?_
    rintro v Γ' ⟨rfl, rfl⟩
    rw [hml]
    have e1 : roundR most (r :: g.rs.drop (k + 1)) L1 = roundR most (g.rs.drop (k + 1)) (stepR most L1 r) := rfl
    have e2 : anyC most (r :: g.rs.drop (k + 1)) L1 = (chg most L1 r || anyC most (g.rs.drop (k + 1)) (stepR most L1 r)) := rfl
    rw [e1] at hr1
    rw [e2] at hc1
    have hfew := few_step h0 hm hb1 r
    have hlen := stepR_len most L1 r
    unfold chg at hc1
    unfold stepR at hr1 hc1 hfew hlen
    rw [hlg, hml] at hr1 hc1 hfew hlen
    have hcell : ∀ Γ : Ctx, gl ∈ Γ → Cells Γ b m [.int .i64 L1[m]] := fun Γ h => hA1.cell hmL h
    by_cases hpos : 0 ≤ totF L1 r.r 0
    · have hd : decide (0 ≤ totF L1 r.r 0) = true := by simpa using hpos
      simp -implicitDefEqProofs only [go_sem, Nat.reduceBEq, Nat.reduceAdd, Nat.reduceSub, Nat.reduceMul, Nat.reduceLeDiff, reduceCtorEq, ↓reduceIte, Int.reduceLT, Int.reduceLE, Int.reduceEq, Int.reduceNe]
      simp only [hd]
      simp -implicitDefEqProofs only [go_sem, Nat.reduceBEq, Nat.reduceAdd, Nat.reduceSub, Nat.reduceMul, Nat.reduceLeDiff, reduceCtorEq, ↓reduceIte, Int.reduceLT, Int.reduceLE, Int.reduceEq, Int.reduceNe]
      rw [go_min]
      refine ⟨hpos, ?_⟩
      refine s_ld0 (cells_lk (lk_r _ _ _ _ hp)) (by simp) (by simp) ?_
      simp -implicitDefEqProofs only [go_sem, Nat.reduceBEq, Nat.reduceAdd, Nat.reduceSub, Nat.reduceMul, Nat.reduceLeDiff, reduceCtorEq, ↓reduceIte, Int.reduceLT, Int.reduceLE, Int.reduceEq, Int.reduceNe]
      refine s_idx rfl (by omega) (by omega) ?_
      simp -implicitDefEqProofs only [go_sem, Nat.reduceBEq, Nat.reduceAdd, Nat.reduceSub, Nat.reduceMul, Nat.reduceLeDiff, reduceCtorEq, ↓reduceIte, Int.reduceLT, Int.reduceLE, Int.reduceEq, Int.reduceNe]
      refine s_ld0 (hcell _ (by simp)) (by simp) (by simp) ?_
      simp -implicitDefEqProofs only [go_sem, Nat.reduceBEq, Nat.reduceAdd, Nat.reduceSub, Nat.reduceMul, Nat.reduceLeDiff, reduceCtorEq, ↓reduceIte, Int.reduceLT, Int.reduceLE, Int.reduceEq, Int.reduceNe]
      refine ⟨fun hlt => ?_, fun hge => ?_⟩
      · rw [if_pos ⟨hpos, hlt⟩] at hr1 hc1 hfew hlen
        refine s_ld0 (cells_lk (lk_r _ _ _ _ hp)) (by simp) (by simp) ?_
        simp -implicitDefEqProofs only [go_sem, Nat.reduceBEq, Nat.reduceAdd, Nat.reduceSub, Nat.reduceMul, Nat.reduceLeDiff, reduceCtorEq, ↓reduceIte, Int.reduceLT, Int.reduceLE, Int.reduceEq, Int.reduceNe]
        rw [go_min]
        refine s_idx rfl (by omega) (by omega) ?_
        simp -implicitDefEqProofs only [go_sem, Nat.reduceBEq, Nat.reduceAdd, Nat.reduceSub, Nat.reduceMul, Nat.reduceLeDiff, reduceCtorEq, ↓reduceIte, Int.reduceLT, Int.reduceLE, Int.reduceEq, Int.reduceNe]
        refine s_storeA (ix := 0) (α := Int) (min (totF L1 r.r 0) most) rfl hA1 hmL ?_
        intro g9 hA9 ho9
        simp -implicitDefEqProofs only [go_sem, Nat.reduceBEq, Nat.reduceAdd, Nat.reduceSub, Nat.reduceMul, Nat.reduceLeDiff, reduceCtorEq, ↓reduceIte, Int.reduceLT, Int.reduceLE, Int.reduceEq, Int.reduceNe]
        simp (disch := omega) only [wrap_id]
        refine Up.here ⟨f - 1, by omega, Up.here ⟨_, rfl, k + 1, _, true, rfl, by omega, hA9, by simp, hfew, hr1, ?_⟩⟩
        rw [hc1]
        simp [hpos, hlt]
      · rw [if_neg (fun q => hge q.2)] at hr1 hc1 hfew hlen
        simp (disch := omega) only [wrap_id]
        refine Up.here ⟨f - 1, by omega, Up.here ⟨_, rfl, k + 1, _, ag, rfl, by omega, hA1, rfl, hfew, hr1, ?_⟩⟩
        rw [hc1]
        simp [hge]
    · have hd : decide (0 ≤ totF L1 r.r 0) = false := by simpa using hpos
      rw [if_neg (fun q => hpos q.1)] at hr1 hc1 hfew hlen
      simp -implicitDefEqProofs only [go_sem, Nat.reduceBEq, Nat.reduceAdd, Nat.reduceSub, Nat.reduceMul, Nat.reduceLeDiff, reduceCtorEq, ↓reduceIte, Int.reduceLT, Int.reduceLE, Int.reduceEq, Int.reduceNe]
      simp only [hd]
      simp -implicitDefEqProofs only [go_sem, Nat.reduceBEq, Nat.reduceAdd, Nat.reduceSub, Nat.reduceMul, Nat.reduceLeDiff, reduceCtorEq, ↓reduceIte, Int.reduceLT, Int.reduceLE, Int.reduceEq, Int.reduceNe]
      refine ⟨.int .i64 0, by simp, ?_⟩
      simp -implicitDefEqProofs only [go_sem, Nat.reduceBEq, Nat.reduceAdd, Nat.reduceSub, Nat.reduceMul, Nat.reduceLeDiff, reduceCtorEq, ↓reduceIte, Int.reduceLT, Int.reduceLE, Int.reduceEq, Int.reduceNe]
      refine s_ldg0 (cs := [.slice none 0 0]) (by simp) (by simp) (by simp) (by simp) ?_
      simp -implicitDefEqProofs only [go_sem, Nat.reduceBEq, Nat.reduceAdd, Nat.reduceSub, Nat.reduceMul, Nat.reduceLeDiff, reduceCtorEq, ↓reduceIte, Int.reduceLT, Int.reduceLE, Int.reduceEq, Int.reduceNe]
      refine s_idxg (b := 0) (o := 0) (by simp) ?_
      simp -implicitDefEqProofs only [go_sem, Nat.reduceBEq, Nat.reduceAdd, Nat.reduceSub, Nat.reduceMul, Nat.reduceLeDiff, reduceCtorEq, ↓reduceIte, Int.reduceLT, Int.reduceLE, Int.reduceEq, Int.reduceNe]
      refine s_ldg0 (cs := [.int .i64 0]) (by simp) (by simp) (by simp) (by simp) ?_
      simp -implicitDefEqProofs only [go_sem, Nat.reduceBEq, Nat.reduceAdd, Nat.reduceSub, Nat.reduceMul, Nat.reduceLeDiff, reduceCtorEq, ↓reduceIte, Int.reduceLT, Int.reduceLE, Int.reduceEq, Int.reduceNe]
      simp (disch := omega) only [wrap_id]
      refine Up.here ⟨f - 1, by omega, Up.here ⟨_, rfl, k + 1, _, ag, rfl, by omega, hA1, rfl, hfew, hr1, ?_⟩⟩
      rw [hc1]
      simp [hpos]
  · have hk : k = g.rs.length := by omega
    subst hk
    refine Up.here ?_
    subst hR
    rw [List.drop_length] at hr1 hc1
    exact ⟨gl, rfl, by rw [hc1]; simp [anyC], by rw [hr1]; exact hA1, by rw [hr1]; exact hb1⟩
end Go.Proofs.Ytniobbepliknmaa.V
/- The text of parlance/lens.endless as a statement (slots: 0 g, 1 long, 2 g, 3 long, 5 way, 6 grow, 7 _, 8 r, 9 i, 10 s, 11 j, 12 x, 13 a, 14 b, 15 c, 16 a, 17 b); no condition. -/
namespace Go.Proofs.Ytniobbepliknmaa.V
open Go
def S123_1 : Stmt :=
  Stmt.seq
  (Stmt.region [SOper.mk (some 58) none (SOp.ibin BinOp.lss (Operand.tmp 57) (Operand.tmp 56))]
    [1, 2, 5, 6, 8, 9, 10, 25, 26, 27, 37, 38, 39, 55, 56, 57, 58])
  (Stmt.seq (Stmt.cond (Operand.tmp 58) Stmt.skip (Stmt.exit 4))
    (Stmt.seq
      (Stmt.block 5
        (Stmt.seq
          (Stmt.region
            [SOper.mk (some 59) none (SOp.mv (Operand.tmp 57)),
              SOper.mk (some 60) none (SOp.idx 2 (Operand.tmp 55) (Operand.tmp 57)),
              SOper.mk (some 61) none (SOp.load true 2 (Operand.tmp 60)),
              SOper.mk (some 12) none
                (SOp.alloc true 39 (Value.agg (Array.mk [Value.bool false, Value.int IntKind.i64 0]))),
              SOper.mk (some 11) none (SOp.mv (Operand.tmp 59)),
              SOper.mk none none (SOp.store 2 (Operand.tmp 12) (Operand.tmp 61))]
            [1, 2, 5, 6, 8, 9, 10, 11, 12, 25, 26, 27, 37, 38, 39, 55, 56, 57])
          (Stmt.drawn
            [(false, SOper.mk (some 62) none (SOp.mv (Operand.tmp 6))),
              (false, SOper.mk (some 63) none (SOp.fld 0 (Operand.tmp 8))),
              (false, SOper.mk (some 64) none (SOp.load false 1 (Operand.tmp 63))),
              (false, SOper.mk (some 65) none (SOp.idx 1 (Operand.tmp 62) (Operand.tmp 64))),
              (false, SOper.mk (some 66) none (SOp.load false 1 (Operand.tmp 65))),
              (false, SOper.mk (some 67) none (SOp.fld 1 (Operand.tmp 10))),
              (false, SOper.mk (some 68) none (SOp.load false 1 (Operand.tmp 67))),
              (false, SOper.mk (some 69) none (SOp.mv (Operand.tmp 6))),
              (false, SOper.mk (some 70) none (SOp.fld 0 (Operand.tmp 8))),
              (false, SOper.mk (some 71) none (SOp.load false 1 (Operand.tmp 70))),
              (false, SOper.mk (some 72) none (SOp.idx 1 (Operand.tmp 69) (Operand.tmp 71))),
              (false, SOper.mk (some 73) none (SOp.load false 1 (Operand.tmp 72))),
              (false, SOper.mk (some 74) none (SOp.fld 1 (Operand.tmp 10))),
              (false, SOper.mk (some 75) none (SOp.load false 1 (Operand.tmp 74))),
              (false, SOper.mk (some 76) none (SOp.idx 1 (Operand.tmp 73) (Operand.tmp 75))),
              (false, SOper.mk (some 77) none (SOp.load false 1 (Operand.tmp 76))),
              (false, SOper.mk (some 78) none (SOp.mv (Operand.tmp 77))),
              (false, SOper.mk (some 79) (some (78, false)) (SOp.mv (Operand.tmp 11))),
              (false, SOper.mk (some 80) (some (78, false)) (SOp.mv (Operand.tmp 9))),
              (false, SOper.mk (some 81) (some (78, false)) (SOp.ibin BinOp.neq (Operand.tmp 79) (Operand.tmp 80))),
              (false, SOper.mk (some 82) (some (78, false)) (SOp.mv (Operand.tmp 81))),
              (false, SOper.mk (some 83) (some (82, true)) (SOp.fld 0 (Operand.tmp 12))),
              (false, SOper.mk (some 84) (some (82, true)) (SOp.load false 1 (Operand.tmp 83))),
              (false, SOper.mk (some 85) (some (82, true)) (SOp.mv (Operand.tmp 84))),
              (false, SOper.mk (some 86) (some (85, false)) (SOp.mv (Operand.tmp 1))),
              (false, SOper.mk (some 87) (some (85, false)) (SOp.fld 1 (Operand.tmp 12))),
              (false, SOper.mk (some 88) (some (85, false)) (SOp.load false 1 (Operand.tmp 87))),
              (false, SOper.mk (some 89) (some (85, false)) (SOp.idx 1 (Operand.tmp 86) (Operand.tmp 88))),
              (false, SOper.mk (some 90) (some (85, false)) (SOp.load false 1 (Operand.tmp 89))),
              (false,
                SOper.mk (some 91) (some (85, false))
                  (SOp.ibin BinOp.gtr (Operand.tmp 90) (Operand.const (Value.int IntKind.i64 0)))),
              (false,
                SOper.mk (some 92) (some (82, true))
                  (SOp.pick (Operand.tmp 85) (Operand.const (Value.bool true)) (Operand.tmp 91))),
              (false,
                SOper.mk (some 93) (some (78, false))
                  (SOp.pick (Operand.tmp 82) (Operand.tmp 92) (Operand.const (Value.bool false)))),
              (false,
                SOper.mk (some 94) none (SOp.pick (Operand.tmp 78) (Operand.const (Value.bool true)) (Operand.tmp 93))),
              (false, SOper.mk (some 95) none (SOp.idx 1 (Operand.tmp 66) (Operand.tmp 68))),
              (false, SOper.mk none none (SOp.store 1 (Operand.tmp 95) (Operand.tmp 94)))]
            [1, 2, 5, 6, 8, 9, 10, 25, 26, 27, 37, 38, 39, 55, 56, 57])))
      (Stmt.region
        [SOper.mk (some 96) none (SOp.ibin BinOp.add (Operand.tmp 57) (Operand.const (Value.int IntKind.i64 1))),
          SOper.mk (some 57) none (SOp.mv (Operand.tmp 96))]
        [1, 2, 5, 6, 8, 9, 10, 25, 26, 27, 37, 38, 39, 55, 56, 57])))
def S123_2 : Stmt :=
  Stmt.block 3
  (Stmt.seq
    (Stmt.region
      [SOper.mk (some 41) none (SOp.mv (Operand.tmp 39)),
        SOper.mk (some 42) none (SOp.idx 2 (Operand.tmp 37) (Operand.tmp 39)),
        SOper.mk (some 43) none (SOp.load true 2 (Operand.tmp 42)),
        SOper.mk (some 10) none (SOp.alloc true 39 (Value.agg (Array.mk [Value.bool false, Value.int IntKind.i64 0]))),
        SOper.mk (some 9) none (SOp.mv (Operand.tmp 41)),
        SOper.mk none none (SOp.store 2 (Operand.tmp 10) (Operand.tmp 43))]
      [1, 2, 5, 6, 8, 9, 10, 25, 26, 27, 37, 38, 39])
    (Stmt.seq
      (Stmt.seq
        (Stmt.region
          [SOper.mk (some 44) none (SOp.fld 0 (Operand.tmp 10)),
            SOper.mk (some 45) none (SOp.load false 1 (Operand.tmp 44))]
          [1, 2, 5, 6, 8, 9, 10, 25, 26, 27, 37, 38, 39, 45])
        (Stmt.cond (Operand.tmp 45) (Stmt.exit 3) Stmt.skip))
      (Stmt.seq
        (Stmt.drawn
          [(false, SOper.mk (some 46) none (SOp.mv (Operand.tmp 5))),
            (false, SOper.mk (some 47) none (SOp.fld 0 (Operand.tmp 8))),
            (false, SOper.mk (some 48) none (SOp.load false 1 (Operand.tmp 47))),
            (false, SOper.mk (some 49) none (SOp.idx 1 (Operand.tmp 46) (Operand.tmp 48))),
            (false, SOper.mk (some 50) none (SOp.load false 1 (Operand.tmp 49))),
            (false, SOper.mk (some 51) none (SOp.fld 1 (Operand.tmp 10))),
            (false, SOper.mk (some 52) none (SOp.load false 1 (Operand.tmp 51))),
            (false, SOper.mk (some 53) none (SOp.idx 1 (Operand.tmp 50) (Operand.tmp 52))),
            (false, SOper.mk none none (SOp.store 1 (Operand.tmp 53) (Operand.const (Value.bool true))))]
          [1, 2, 5, 6, 8, 9, 10, 25, 26, 27, 37, 38, 39])
        (Stmt.seq
          (Stmt.region
            [SOper.mk (some 54) none (SOp.fld 1 (Operand.tmp 8)),
              SOper.mk (some 55) none (SOp.load false 1 (Operand.tmp 54)),
              SOper.mk (some 56) none (SOp.len false (Operand.tmp 55)),
              SOper.mk (some 57) none (SOp.mv (Operand.const (Value.int IntKind.i64 0)))]
            [1, 2, 5, 6, 8, 9, 10, 25, 26, 27, 37, 38, 39, 55, 56, 57])
          (Stmt.block 4 (Stmt.loop S123_1 [57] [1, 2, 5, 6, 8, 9, 10, 25, 26, 27, 37, 38, 39, 55, 56]))))))
def S123_3 : Stmt :=
  Stmt.region
  [SOper.mk (some 97) none (SOp.ibin BinOp.add (Operand.tmp 39) (Operand.const (Value.int IntKind.i64 1))),
    SOper.mk (some 39) none (SOp.mv (Operand.tmp 97))]
  [1, 2, 5, 6, 8, 25, 26, 27, 37, 38, 39]
def S123_4 : Stmt :=
  Stmt.seq
  (Stmt.region [SOper.mk (some 40) none (SOp.ibin BinOp.lss (Operand.tmp 39) (Operand.tmp 38))]
    [1, 2, 5, 6, 8, 25, 26, 27, 37, 38, 39, 40])
  (Stmt.seq (Stmt.cond (Operand.tmp 40) Stmt.skip (Stmt.exit 2))
    (Stmt.join S123_2 S123_3 [] [1, 2, 5, 6, 8, 25, 26, 27, 37, 38, 39]))
def S123_5 : Stmt :=
  Stmt.block 1
  (Stmt.seq
    (Stmt.region
      [SOper.mk (some 29) none (SOp.idx 2 (Operand.tmp 25) (Operand.tmp 27)),
        SOper.mk (some 30) none (SOp.load true 2 (Operand.tmp 29)),
        SOper.mk (some 8) none
          (SOp.alloc true 37 (Value.agg (Array.mk [Value.int IntKind.i64 0, Value.slice none 0 0]))),
        SOper.mk none none (SOp.store 2 (Operand.tmp 8) (Operand.tmp 30))]
      [1, 2, 5, 6, 8, 25, 26, 27])
    (Stmt.seq
      (Stmt.seq
        (Stmt.region
          [SOper.mk (some 31) none (SOp.fld 1 (Operand.tmp 8)),
            SOper.mk (some 32) none (SOp.load false 1 (Operand.tmp 31)),
            SOper.mk (some 33) none (SOp.mv (Operand.tmp 1)),
            SOper.mk (some 34) none (SOp.call (Operand.func 122) [Operand.tmp 32, Operand.tmp 33]),
            SOper.mk (some 35) none (SOp.ibin BinOp.lss (Operand.tmp 34) (Operand.const (Value.int IntKind.i64 0)))]
          [1, 2, 5, 6, 8, 25, 26, 27, 35])
        (Stmt.cond (Operand.tmp 35) (Stmt.exit 1) Stmt.skip))
      (Stmt.seq
        (Stmt.region
          [SOper.mk (some 36) none (SOp.fld 1 (Operand.tmp 8)),
            SOper.mk (some 37) none (SOp.load false 1 (Operand.tmp 36)),
            SOper.mk (some 38) none (SOp.len false (Operand.tmp 37)),
            SOper.mk (some 39) none (SOp.mv (Operand.const (Value.int IntKind.i64 0)))]
          [1, 2, 5, 6, 8, 25, 26, 27, 37, 38, 39])
        (Stmt.block 2 (Stmt.loop S123_4 [39] [1, 2, 5, 6, 8, 25, 26, 27, 37, 38])))))
def S123_6 : Stmt :=
  Stmt.region
  [SOper.mk (some 98) none (SOp.ibin BinOp.add (Operand.tmp 27) (Operand.const (Value.int IntKind.i64 1))),
    SOper.mk (some 27) none (SOp.mv (Operand.tmp 98))]
  [1, 2, 5, 6, 25, 26, 27]
def S123_7 : Stmt :=
  Stmt.seq
  (Stmt.region [SOper.mk (some 28) none (SOp.ibin BinOp.lss (Operand.tmp 27) (Operand.tmp 26))]
    [1, 2, 5, 6, 25, 26, 27, 28])
  (Stmt.seq (Stmt.cond (Operand.tmp 28) Stmt.skip (Stmt.exit 0)) (Stmt.join S123_5 S123_6 [] [1, 2, 5, 6, 25, 26, 27]))
def S123_8 : Stmt :=
  Stmt.seq
  (Stmt.region [SOper.mk (some 112) none (SOp.ibin BinOp.lss (Operand.tmp 111) (Operand.tmp 110))]
    [2, 5, 6, 13, 14, 100, 101, 105, 106, 110, 111, 112])
  (Stmt.seq (Stmt.cond (Operand.tmp 112) Stmt.skip (Stmt.exit 10))
    (Stmt.seq
      (Stmt.block 11
        (Stmt.seq
          (Stmt.region
            [SOper.mk (some 113) none (SOp.mv (Operand.tmp 111)), SOper.mk (some 15) none (SOp.mv (Operand.tmp 113))]
            [2, 5, 6, 13, 14, 15, 100, 101, 105, 106, 110, 111])
          (Stmt.drawn
            [(false, SOper.mk (some 114) none (SOp.mv (Operand.tmp 5))),
              (false, SOper.mk (some 115) none (SOp.mv (Operand.tmp 14))),
              (false, SOper.mk (some 116) none (SOp.idx 1 (Operand.tmp 114) (Operand.tmp 115))),
              (false, SOper.mk (some 117) none (SOp.load false 1 (Operand.tmp 116))),
              (false, SOper.mk (some 118) none (SOp.mv (Operand.tmp 15))),
              (false, SOper.mk (some 119) none (SOp.mv (Operand.tmp 5))),
              (false, SOper.mk (some 120) none (SOp.mv (Operand.tmp 14))),
              (false, SOper.mk (some 121) none (SOp.idx 1 (Operand.tmp 119) (Operand.tmp 120))),
              (false, SOper.mk (some 122) none (SOp.load false 1 (Operand.tmp 121))),
              (false, SOper.mk (some 123) none (SOp.mv (Operand.tmp 15))),
              (false, SOper.mk (some 124) none (SOp.idx 1 (Operand.tmp 122) (Operand.tmp 123))),
              (false, SOper.mk (some 125) none (SOp.load false 1 (Operand.tmp 124))),
              (false, SOper.mk (some 126) none (SOp.mv (Operand.tmp 125))),
              (false, SOper.mk (some 127) (some (126, false)) (SOp.mv (Operand.tmp 5))),
              (false, SOper.mk (some 128) (some (126, false)) (SOp.mv (Operand.tmp 14))),
              (false, SOper.mk (some 129) (some (126, false)) (SOp.idx 1 (Operand.tmp 127) (Operand.tmp 128))),
              (false, SOper.mk (some 130) (some (126, false)) (SOp.load false 1 (Operand.tmp 129))),
              (false, SOper.mk (some 131) (some (126, false)) (SOp.mv (Operand.tmp 13))),
              (false, SOper.mk (some 132) (some (126, false)) (SOp.idx 1 (Operand.tmp 130) (Operand.tmp 131))),
              (false, SOper.mk (some 133) (some (126, false)) (SOp.load false 1 (Operand.tmp 132))),
              (false, SOper.mk (some 134) (some (126, false)) (SOp.mv (Operand.tmp 133))),
              (false, SOper.mk (some 135) (some (134, true)) (SOp.mv (Operand.tmp 5))),
              (false, SOper.mk (some 136) (some (134, true)) (SOp.mv (Operand.tmp 13))),
              (false, SOper.mk (some 137) (some (134, true)) (SOp.idx 1 (Operand.tmp 135) (Operand.tmp 136))),
              (false, SOper.mk (some 138) (some (134, true)) (SOp.load false 1 (Operand.tmp 137))),
              (false, SOper.mk (some 139) (some (134, true)) (SOp.mv (Operand.tmp 15))),
              (false, SOper.mk (some 140) (some (134, true)) (SOp.idx 1 (Operand.tmp 138) (Operand.tmp 139))),
              (false, SOper.mk (some 141) (some (134, true)) (SOp.load false 1 (Operand.tmp 140))),
              (false,
                SOper.mk (some 142) (some (126, false))
                  (SOp.pick (Operand.tmp 134) (Operand.tmp 141) (Operand.const (Value.bool false)))),
              (false,
                SOper.mk (some 143) none
                  (SOp.pick (Operand.tmp 126) (Operand.const (Value.bool true)) (Operand.tmp 142))),
              (false, SOper.mk (some 144) none (SOp.idx 1 (Operand.tmp 117) (Operand.tmp 118))),
              (false, SOper.mk none none (SOp.store 1 (Operand.tmp 144) (Operand.tmp 143)))]
            [2, 5, 6, 13, 14, 100, 101, 105, 106, 110, 111])))
      (Stmt.region
        [SOper.mk (some 145) none (SOp.ibin BinOp.add (Operand.tmp 111) (Operand.const (Value.int IntKind.i64 1))),
          SOper.mk (some 111) none (SOp.mv (Operand.tmp 145))]
        [2, 5, 6, 13, 14, 100, 101, 105, 106, 110, 111])))
def S123_9 : Stmt :=
  Stmt.seq
  (Stmt.region [SOper.mk (some 107) none (SOp.ibin BinOp.lss (Operand.tmp 106) (Operand.tmp 105))]
    [2, 5, 6, 13, 100, 101, 105, 106, 107])
  (Stmt.seq (Stmt.cond (Operand.tmp 107) Stmt.skip (Stmt.exit 8))
    (Stmt.seq
      (Stmt.block 9
        (Stmt.seq
          (Stmt.region
            [SOper.mk (some 108) none (SOp.mv (Operand.tmp 106)), SOper.mk (some 14) none (SOp.mv (Operand.tmp 108))]
            [2, 5, 6, 13, 14, 100, 101, 105, 106])
          (Stmt.seq
            (Stmt.region
              [SOper.mk (some 109) none (SOp.mv (Operand.tmp 5)),
                SOper.mk (some 110) none (SOp.len false (Operand.tmp 109)),
                SOper.mk (some 111) none (SOp.mv (Operand.const (Value.int IntKind.i64 0)))]
              [2, 5, 6, 13, 14, 100, 101, 105, 106, 110, 111])
            (Stmt.block 10 (Stmt.loop S123_8 [111] [2, 5, 6, 13, 14, 100, 101, 105, 106, 110])))))
      (Stmt.region
        [SOper.mk (some 146) none (SOp.ibin BinOp.add (Operand.tmp 106) (Operand.const (Value.int IntKind.i64 1))),
          SOper.mk (some 106) none (SOp.mv (Operand.tmp 146))]
        [2, 5, 6, 13, 100, 101, 105, 106])))
def S123_10 : Stmt :=
  Stmt.seq
  (Stmt.region [SOper.mk (some 102) none (SOp.ibin BinOp.lss (Operand.tmp 101) (Operand.tmp 100))]
    [2, 5, 6, 100, 101, 102])
  (Stmt.seq (Stmt.cond (Operand.tmp 102) Stmt.skip (Stmt.exit 6))
    (Stmt.seq
      (Stmt.block 7
        (Stmt.seq
          (Stmt.region
            [SOper.mk (some 103) none (SOp.mv (Operand.tmp 101)), SOper.mk (some 13) none (SOp.mv (Operand.tmp 103))]
            [2, 5, 6, 13, 100, 101])
          (Stmt.seq
            (Stmt.region
              [SOper.mk (some 104) none (SOp.mv (Operand.tmp 5)),
                SOper.mk (some 105) none (SOp.len false (Operand.tmp 104)),
                SOper.mk (some 106) none (SOp.mv (Operand.const (Value.int IntKind.i64 0)))]
              [2, 5, 6, 13, 100, 101, 105, 106])
            (Stmt.block 8 (Stmt.loop S123_9 [106] [2, 5, 6, 13, 100, 101, 105])))))
      (Stmt.region
        [SOper.mk (some 147) none (SOp.ibin BinOp.add (Operand.tmp 101) (Operand.const (Value.int IntKind.i64 1))),
          SOper.mk (some 101) none (SOp.mv (Operand.tmp 147))]
        [2, 5, 6, 100, 101])))
def S123_11 : Stmt :=
  Stmt.seq
  (Stmt.region [SOper.mk (some 156) none (SOp.ibin BinOp.lss (Operand.tmp 155) (Operand.tmp 154))]
    [2, 5, 6, 16, 149, 150, 154, 155, 156])
  (Stmt.seq (Stmt.cond (Operand.tmp 156) Stmt.skip (Stmt.exit 14))
    (Stmt.seq
      (Stmt.block 15
        (Stmt.seq
          (Stmt.region
            [SOper.mk (some 157) none (SOp.mv (Operand.tmp 155)), SOper.mk (some 17) none (SOp.mv (Operand.tmp 157))]
            [2, 5, 6, 16, 17, 149, 150, 154, 155])
          (Stmt.seq
            (Stmt.region
              [SOper.mk (some 158) none (SOp.mv (Operand.tmp 6)), SOper.mk (some 159) none (SOp.mv (Operand.tmp 16)),
                SOper.mk (some 160) none (SOp.idx 1 (Operand.tmp 158) (Operand.tmp 159)),
                SOper.mk (some 161) none (SOp.load false 1 (Operand.tmp 160)),
                SOper.mk (some 162) none (SOp.mv (Operand.tmp 17)),
                SOper.mk (some 163) none (SOp.idx 1 (Operand.tmp 161) (Operand.tmp 162)),
                SOper.mk (some 164) none (SOp.load false 1 (Operand.tmp 163)),
                SOper.mk (some 165) none (SOp.mv (Operand.tmp 164)),
                SOper.mk (some 166) (some (165, true)) (SOp.mv (Operand.tmp 16)),
                SOper.mk (some 167) (some (165, true)) (SOp.mv (Operand.tmp 17)),
                SOper.mk (some 168) (some (165, true)) (SOp.ibin BinOp.eql (Operand.tmp 166) (Operand.tmp 167)),
                SOper.mk (some 169) (some (165, true)) (SOp.mv (Operand.tmp 168)),
                SOper.mk (some 170) (some (169, false)) (SOp.mv (Operand.tmp 5)),
                SOper.mk (some 171) (some (169, false)) (SOp.mv (Operand.tmp 17)),
                SOper.mk (some 172) (some (169, false)) (SOp.idx 1 (Operand.tmp 170) (Operand.tmp 171)),
                SOper.mk (some 173) (some (169, false)) (SOp.load false 1 (Operand.tmp 172)),
                SOper.mk (some 174) (some (169, false)) (SOp.mv (Operand.tmp 16)),
                SOper.mk (some 175) (some (169, false)) (SOp.idx 1 (Operand.tmp 173) (Operand.tmp 174)),
                SOper.mk (some 176) (some (169, false)) (SOp.load false 1 (Operand.tmp 175)),
                SOper.mk (some 177) (some (165, true))
                  (SOp.pick (Operand.tmp 169) (Operand.const (Value.bool true)) (Operand.tmp 176)),
                SOper.mk (some 178) none
                  (SOp.pick (Operand.tmp 165) (Operand.tmp 177) (Operand.const (Value.bool false))),
                SOper.mk (some 179) none (SOp.mv (Operand.tmp 178)),
                SOper.mk (some 180) (some (179, true)) (SOp.mv (Operand.tmp 16)),
                SOper.mk (some 181) (some (179, true)) (SOp.fld 2 (Operand.tmp 2)),
                SOper.mk (some 182) (some (179, true)) (SOp.load false 1 (Operand.tmp 181)),
                SOper.mk (some 183) (some (179, true)) (SOp.ibin BinOp.eql (Operand.tmp 180) (Operand.tmp 182)),
                SOper.mk (some 184) (some (179, true)) (SOp.mv (Operand.tmp 183)),
                SOper.mk (some 185) (some (184, false)) (SOp.mv (Operand.tmp 5)),
                SOper.mk (some 186) (some (184, false)) (SOp.fld 2 (Operand.tmp 2)),
                SOper.mk (some 187) (some (184, false)) (SOp.load false 1 (Operand.tmp 186)),
                SOper.mk (some 188) (some (184, false)) (SOp.idx 1 (Operand.tmp 185) (Operand.tmp 187)),
                SOper.mk (some 189) (some (184, false)) (SOp.load false 1 (Operand.tmp 188)),
                SOper.mk (some 190) (some (184, false)) (SOp.mv (Operand.tmp 16)),
                SOper.mk (some 191) (some (184, false)) (SOp.idx 1 (Operand.tmp 189) (Operand.tmp 190)),
                SOper.mk (some 192) (some (184, false)) (SOp.load false 1 (Operand.tmp 191)),
                SOper.mk (some 193) (some (179, true))
                  (SOp.pick (Operand.tmp 184) (Operand.const (Value.bool true)) (Operand.tmp 192)),
                SOper.mk (some 194) none
                  (SOp.pick (Operand.tmp 179) (Operand.tmp 193) (Operand.const (Value.bool false)))]
              [2, 5, 6, 16, 149, 150, 154, 155, 194])
            (Stmt.cond (Operand.tmp 194)
              (Stmt.seq (Stmt.region [SOper.mk (some 4) none (SOp.mv (Operand.const (Value.bool true)))] [4]) Stmt.ret)
              Stmt.skip))))
      (Stmt.region
        [SOper.mk (some 195) none (SOp.ibin BinOp.add (Operand.tmp 155) (Operand.const (Value.int IntKind.i64 1))),
          SOper.mk (some 155) none (SOp.mv (Operand.tmp 195))]
        [2, 5, 6, 16, 149, 150, 154, 155])))
def S123_12 : Stmt :=
  Stmt.seq
  (Stmt.region [SOper.mk (some 151) none (SOp.ibin BinOp.lss (Operand.tmp 150) (Operand.tmp 149))]
    [2, 5, 6, 149, 150, 151])
  (Stmt.seq (Stmt.cond (Operand.tmp 151) Stmt.skip (Stmt.exit 12))
    (Stmt.seq
      (Stmt.block 13
        (Stmt.seq
          (Stmt.region
            [SOper.mk (some 152) none (SOp.mv (Operand.tmp 150)), SOper.mk (some 16) none (SOp.mv (Operand.tmp 152))]
            [2, 5, 6, 16, 149, 150])
          (Stmt.seq
            (Stmt.region
              [SOper.mk (some 153) none (SOp.mv (Operand.tmp 5)),
                SOper.mk (some 154) none (SOp.len false (Operand.tmp 153)),
                SOper.mk (some 155) none (SOp.mv (Operand.const (Value.int IntKind.i64 0)))]
              [2, 5, 6, 16, 149, 150, 154, 155])
            (Stmt.block 14 (Stmt.loop S123_11 [155] [2, 5, 6, 16, 149, 150, 154])))))
      (Stmt.region
        [SOper.mk (some 196) none (SOp.ibin BinOp.add (Operand.tmp 150) (Operand.const (Value.int IntKind.i64 1))),
          SOper.mk (some 150) none (SOp.mv (Operand.tmp 196))]
        [2, 5, 6, 149, 150])))
def S123_0 : Stmt :=
  Stmt.seq
  (Stmt.region
    [SOper.mk (some 2) none (SOp.box true 57 (Operand.tmp 0)),
      SOper.mk (some 4) none (SOp.mv (Operand.const (Value.bool false)))]
    [1, 2])
  (Stmt.seq
    (Stmt.drawn
      [(false, SOper.mk (some 18) none (SOp.fld 1 (Operand.tmp 2))),
        (false, SOper.mk (some 19) none (SOp.load false 1 (Operand.tmp 18))),
        (false, SOper.mk (some 21) none (SOp.fld 1 (Operand.tmp 2))),
        (true, SOper.mk (some 22) none (SOp.load false 1 (Operand.tmp 21))),
        (false, SOper.mk (some 20) none (SOp.call (Operand.func 176) [Operand.tmp 19])),
        (false, SOper.mk (some 23) none (SOp.call (Operand.func 176) [Operand.tmp 22])),
        (false, SOper.mk (some 5) none (SOp.mv (Operand.tmp 20))),
        (false, SOper.mk (some 6) none (SOp.mv (Operand.tmp 23)))]
      [1, 2, 5, 6])
    (Stmt.seq
      (Stmt.seq
        (Stmt.region
          [SOper.mk (some 24) none (SOp.fld 3 (Operand.tmp 2)),
            SOper.mk (some 25) none (SOp.load false 1 (Operand.tmp 24)),
            SOper.mk (some 26) none (SOp.len false (Operand.tmp 25)),
            SOper.mk (some 27) none (SOp.mv (Operand.const (Value.int IntKind.i64 0)))]
          [1, 2, 5, 6, 25, 26, 27])
        (Stmt.block 0 (Stmt.loop S123_7 [27] [1, 2, 5, 6, 25, 26])))
      (Stmt.seq
        (Stmt.seq
          (Stmt.region
            [SOper.mk (some 99) none (SOp.mv (Operand.tmp 5)),
              SOper.mk (some 100) none (SOp.len false (Operand.tmp 99)),
              SOper.mk (some 101) none (SOp.mv (Operand.const (Value.int IntKind.i64 0)))]
            [2, 5, 6, 100, 101])
          (Stmt.block 6 (Stmt.loop S123_10 [101] [2, 5, 6, 100])))
        (Stmt.seq
          (Stmt.seq
            (Stmt.region
              [SOper.mk (some 148) none (SOp.mv (Operand.tmp 5)),
                SOper.mk (some 149) none (SOp.len false (Operand.tmp 148)),
                SOper.mk (some 150) none (SOp.mv (Operand.const (Value.int IntKind.i64 0)))]
              [2, 5, 6, 149, 150])
            (Stmt.block 12 (Stmt.loop S123_12 [150] [2, 5, 6, 149])))
          (Stmt.seq (Stmt.region [SOper.mk (some 4) none (SOp.mv (Operand.const (Value.bool false)))] [4]) Stmt.ret)))))
def S123 : FnS := ⟨197, [(4, none)], S123_0⟩
theorem tr123 : trFn Try.prog 123 [2, 8, 10, 12] [[1, 2], [1, 2, 5, 6], [0, 1, 3, 4, 2, 5, 6, 7], [4], [], [0], [0, 1], [], [3], [0, 1, 2, 3, 4], [0, 1, 2, 3, 4, 5], [0, 1, 2, 3, 4, 5, 6], [1, 2, 5, 6, 25, 26, 27], [27], [1, 2, 5, 6, 25, 26], [1, 2, 5, 6, 25, 26, 27, 28], [], [1, 2, 5, 6, 25, 26, 27], [1, 2, 5, 6, 8, 25, 26, 27], [1, 2, 5, 6, 8, 25, 26, 27, 35], [1, 2, 5, 6, 8, 25, 26, 27, 37, 38, 39], [39], [1, 2, 5, 6, 8, 25, 26, 27, 37, 38], [1, 2, 5, 6, 8, 25, 26, 27, 37, 38, 39, 40], [], [1, 2, 5, 6, 8, 25, 26, 27, 37, 38, 39], [1, 2, 5, 6, 8, 9, 10, 25, 26, 27, 37, 38, 39], [1, 2, 5, 6, 8, 9, 10, 25, 26, 27, 37, 38, 39, 45], [1, 2, 5, 6, 8, 9, 10, 25, 26, 27, 37, 38, 39], [0, 1, 2, 3, 4, 5, 6, 7, 8], [], [], [], [1], [0, 1, 2], [0, 1, 2, 3], [], [5], [0, 1, 2, 3, 4, 5, 6], [0, 1, 2, 3, 4, 5, 6, 7], [1, 2, 5, 6, 8, 9, 10, 25, 26, 27, 37, 38, 39, 55, 56, 57], [57], [1, 2, 5, 6, 8, 9, 10, 25, 26, 27, 37, 38, 39, 55, 56], [1, 2, 5, 6, 8, 9, 10, 25, 26, 27, 37, 38, 39, 55, 56, 57, 58], [1, 2, 5, 6, 8, 9, 10, 11, 12, 25, 26, 27, 37, 38, 39, 55, 56, 57], [1, 2, 5, 6, 8, 9, 10, 25, 26, 27, 37, 38, 39, 55, 56, 57], [0, 1, 2, 3, 4, 5, 6, 7, 8, 9, 10, 11, 12, 13, 14, 15, 16, 17, 18, 19, 20, 21, 22, 23, 24, 25, 26, 27, 28, 29, 30, 31, 32, 33, 34], [], [], [], [1], [0, 1, 2], [0, 1, 2, 3], [], [5], [], [], [8], [7, 8, 9], [7, 8, 9, 10], [], [12], [7, 8, 9, 10, 11, 12, 13], [7, 8, 9, 10, 11, 12, 13, 14], [7, 8, 9, 10, 11, 12, 13, 14, 15], [7, 8, 9, 10, 11, 12, 13, 14, 15, 16], [7, 8, 9, 10, 11, 12, 13, 14, 15, 16], [7, 8, 9, 10, 11, 12, 13, 14, 15, 16, 17, 18], [7, 8, 9, 10, 11, 12, 13, 14, 15, 16, 17, 18, 19], [7, 8, 9, 10, 11, 12, 13, 14, 15, 16, 17, 18, 19, 20], [7, 8, 9, 10, 11, 12, 13, 14, 15, 16, 17, 18, 19, 20, 21], [7, 8, 9, 10, 11, 12, 13, 14, 15, 16, 17, 18, 19, 20, 21, 22], [7, 8, 9, 10, 11, 12, 13, 14, 15, 16, 17, 18, 19, 20, 21, 22, 23], [7, 8, 9, 10, 11, 12, 13, 14, 15, 16, 17, 18, 19, 20, 21, 22, 23], [7, 8, 9, 10, 11, 12, 13, 14, 15, 16, 17, 18, 19, 20, 21, 22, 23, 25], [7, 8, 9, 10, 11, 12, 13, 14, 15, 16, 17, 18, 19, 20, 21, 22, 23, 24, 25, 26], [7, 8, 9, 10, 11, 12, 13, 14, 15, 16, 17, 18, 19, 20, 21, 22, 23, 24, 25, 26, 27], [7, 8, 9, 10, 11, 12, 13, 14, 15, 16, 17, 18, 19, 20, 21, 22, 23, 24, 25, 26, 27, 28], [7, 8, 9, 10, 11, 12, 13, 14, 15, 16, 17, 18, 19, 20, 21, 22, 23, 24, 25, 26, 27, 28, 29], [7, 8, 9, 10, 11, 12, 13, 14, 15, 16, 17, 18, 19, 20, 21, 22, 23, 24, 25, 26, 27, 28, 29, 30], [7, 8, 9, 10, 11, 12, 13, 14, 15, 16, 17, 18, 19, 20, 21, 22, 23, 24, 25, 26, 27, 28, 29, 30, 31], [0, 1, 2, 3, 4, 5, 6, 7, 8, 9, 10, 11, 12, 13, 14, 15, 16, 17, 18, 19, 20, 21, 22, 23, 24, 25, 26, 27, 28, 29, 30, 31, 32], [0, 1, 2, 3, 4, 5, 6, 7, 8, 9, 10, 11, 12, 13, 14, 15, 16, 17, 18, 19, 20, 21, 22, 23, 24, 25, 26, 27, 28, 29, 30, 31, 32, 33], [1, 2, 5, 6, 8, 9, 10, 25, 26, 27, 37, 38, 39, 55, 56, 57], [1, 2, 5, 6, 8, 25, 26, 27, 37, 38, 39], [1, 2, 5, 6, 25, 26, 27], [2, 5, 6, 100, 101], [101], [2, 5, 6, 100], [2, 5, 6, 100, 101, 102], [2, 5, 6, 13, 100, 101], [2, 5, 6, 13, 100, 101, 105, 106], [106], [2, 5, 6, 13, 100, 101, 105], [2, 5, 6, 13, 100, 101, 105, 106, 107], [2, 5, 6, 13, 14, 100, 101, 105, 106], [2, 5, 6, 13, 14, 100, 101, 105, 106, 110, 111], [111], [2, 5, 6, 13, 14, 100, 101, 105, 106, 110], [2, 5, 6, 13, 14, 100, 101, 105, 106, 110, 111, 112], [2, 5, 6, 13, 14, 15, 100, 101, 105, 106, 110, 111], [2, 5, 6, 13, 14, 100, 101, 105, 106, 110, 111], [0, 1, 2, 3, 4, 5, 6, 7, 8, 9, 10, 11, 12, 13, 14, 15, 16, 17, 18, 19, 20, 21, 22, 23, 24, 25, 26, 27, 28, 29, 30, 31], [], [], [], [0, 1], [0, 1, 2], [], [], [], [5, 6], [5, 6, 7], [], [5, 6, 7, 8, 9], [5, 6, 7, 8, 9, 10], [5, 6, 7, 8, 9, 10, 11], [5, 6, 7, 8, 9, 10, 11, 12], [5, 6, 7, 8, 9, 10, 11, 12], [5, 6, 7, 8, 9, 10, 11, 12, 13, 14], [5, 6, 7, 8, 9, 10, 11, 12, 13, 14, 15], [5, 6, 7, 8, 9, 10, 11, 12], [5, 6, 7, 8, 9, 10, 11, 12, 13, 14, 15, 16, 17], [5, 6, 7, 8, 9, 10, 11, 12, 13, 14, 15, 16, 17, 18], [5, 6, 7, 8, 9, 10, 11, 12, 13, 14, 15, 16, 17, 18, 19], [5, 6, 7, 8, 9, 10, 11, 12, 13, 14, 15, 16, 17, 18, 19, 20], [5, 6, 7, 8, 9, 10, 11, 12, 13, 14, 15, 16, 17, 18, 19, 20], [5, 6, 7, 8, 9, 10, 11, 12, 13, 14, 15, 16, 17, 18, 19, 20, 21, 22], [5, 6, 7, 8, 9, 10, 11, 12, 13, 14, 15, 16, 17, 18, 19, 20, 21, 22, 23], [5, 6, 7, 8, 9, 10, 11, 12, 13, 14, 15, 16, 17, 18, 19, 20], [5, 6, 7, 8, 9, 10, 11, 12, 13, 14, 15, 16, 17, 18, 19, 20, 21, 22, 23, 24, 25], [5, 6, 7, 8, 9, 10, 11, 12, 13, 14, 15, 16, 17, 18, 19, 20, 21, 22, 23, 24, 25, 26], [5, 6, 7, 8, 9, 10, 11, 12, 13, 14, 15, 16, 17, 18, 19, 20, 21, 22, 23, 24, 25, 26, 27], [5, 6, 7, 8, 9, 10, 11, 12, 13, 14, 15, 16, 17, 18, 19, 20, 21, 22, 23, 24, 25, 26, 27, 28], [0, 1, 2, 3, 4, 5, 6, 7, 8, 9, 10, 11, 12, 13, 14, 15, 16, 17, 18, 19, 20, 21, 22, 23, 24, 25, 26, 27, 28, 29], [0, 1, 2, 3, 4, 5, 6, 7, 8, 9, 10, 11, 12, 13, 14, 15, 16, 17, 18, 19, 20, 21, 22, 23, 24, 25, 26, 27, 28, 29, 30], [2, 5, 6, 13, 14, 100, 101, 105, 106, 110, 111], [2, 5, 6, 13, 100, 101, 105, 106], [2, 5, 6, 100, 101], [2, 5, 6, 149, 150], [150], [2, 5, 6, 149], [2, 5, 6, 149, 150, 151], [2, 5, 6, 16, 149, 150], [2, 5, 6, 16, 149, 150, 154, 155], [155], [2, 5, 6, 16, 149, 150, 154], [2, 5, 6, 16, 149, 150, 154, 155, 156], [2, 5, 6, 16, 17, 149, 150, 154, 155], [2, 5, 6, 16, 149, 150, 154, 155, 194], [4], [2, 5, 6, 16, 149, 150, 154, 155], [2, 5, 6, 149, 150], [4]] = some S123 := by kernel_rfl
end Go.Proofs.Ytniobbepliknmaa.V
/- The longest word: lens.endless walked; no condition. -/
namespace Go.Proofs.Ytniobbepliknmaa.V
open Go
set_option linter.unusedVariables false
set_option linter.unusedSimpArgs false
attribute [local go_sem] e_seq e_region e_quiet e_join e_loop e_cond e_block e_exit e_ret e_skip e_fin e_kseq e_snrm e_sret e_sex e_bnrm e_bret e_bex e_rnrm e_rret e_res e_condC e_nil e_g e_mv g_mv e_pick g_pick pickC_eq e_ibin g_ibin ibinC_eq e_sbin g_sbin e_beq g_beq beqC_eq e_nilq g_nilq nilqC_sl nilqC_pt nilqC_mp e_un g_un unC_not unC_neg e_conv g_conv convC_eq e_fld g_fld fldC_ref fldC_ptr e_nilCheck g_nilCheck nilCheckC_ref nilCheckC_ptr nilCheckC_fun e_field g_field fieldC_eq e_len g_len lenC_sl lenC_str e_extract g_extract extractC_eq e_mkFunc e_build g_build e_idiv g_idiv idivC_eq e_ishift g_ishift ishiftC_eq e_idx g_idx e_idxA g_idxA e_load g_load loadC_ref loadC_ptr loadB_eq e_slc g_slc e_box boxC_loc boxC_esc e_alloc allocC_loc allocC_esc e_buildS e_store storeC_ref storeC_ptr storeB_eq e_append e_appz e_mk mkC_eq e_call callC_eq e_fn g_fn fnC_eq fnV_min' fnV_max' fnV_rune' e_q g_q e_a e_n g_call g_box g_alloc g_buildS g_store g_append g_mk g_a g_n g_dead e_dead e_callK e_drawn e_tree e_finJ e_tk e_tfin e_tno e_nbt_q e_nbt_qn e_nbt_a e_nbt_an e_nbt_fin e_early_nil e_early_t e_early_f e_nob_nil e_nob_none e_nob_some isBox_dead isBox_v isBox_ref e_dnil e_dk e_ek e_finB vcOps_vc1 e_dcons e_tq e_ekt e_tearly e_talt e_dearly look_nil look_c proj_nil proj_c looks_nil looks_c zip_nil zip_c val_tmp val_const val_func slv_v slv_box slv_ref slot_tmp slot_const slot_func slotL_v slotL_box slotL_ref put_some put_none updBox_c boxSet_box gd_eq slotVals_nil slotVals_c slotVals_b boxV_box boxOn_box slotsOn_nil slotsOn_c slotsOn_b resV_one resV_two vals_nil vals_c allOn_nil allOn_c partOn_nil partOn_c partVals_nil partVals_c fits_nil fits_c fillL_nil fillL_c mkv_one mkv_agg cellsV_agg cellsV_int cellsV_bool cellsV_slice cellsV_string cellsV_pointer cellsV_func cellsV_nilf cellsV_map one'_nil one'_c oc_int oc_bool oc_slice oc_string oc_pointer oc_func oc_nilf oc_map setC_eq iv_add iv_sub iv_mul iv_eql iv_neq iv_lss iv_leq iv_gtr iv_geq iok_add iok_sub iok_mul iok_eql iok_neq iok_lss iok_leq iok_gtr iok_geq pickV_bool args0_nil args0_c bnd_none bnd_some imp_bt imp_bf imp_ebt imp_ebf imp_eb1 imp_np imp_pp beq_tt beq_tf beq_ft beq_ff cond_or cond_and e_round e_meet Int.le_refl Int.toNat_zero decide_true decide_false Bool.or_false Bool.false_or Bool.true_or Bool.or_true Bool.and_false Bool.false_and Bool.bne_false Bool.bne_true beq_iff_eq Int.cast_ofNat_Int not_false_eq_true not_true_eq_false false_and and_false false_implies true_implies true_and and_true Bool.true_and Bool.and_true Bool.not_true Bool.not_false forall_const implies_true List.take_zero List.drop_zero List.take_succ_cons List.drop_succ_cons List.take_nil List.drop_nil List.length_cons List.length_nil List.nil_append List.append_nil List.cons_append Int.toNat_natCast decide_eq_true_eq decide_eq_false_iff_not cond_true cond_false and_self List.getElem?_cons_zero List.getElem?_cons_succ List.set_cons_zero List.set_cons_succ Option.some.injEq exists_eq_left' Nat.zero_add Nat.add_zero Nat.mul_one imp_self true_or or_true or_false false_or Bool.or_eq_true Bool.or_eq_false_iff Bool.and_eq_true Bool.and_eq_false_iff Bool.not_eq_true' Bool.not_eq_false'

def BigL (L : List Int) (l : List Sy) (p q : Nat) : Prop := ∃ x, l[q]? = some x ∧ q ≠ p ∧ (x.t = true ∨ 0 < lgt L x.n)
def WayI (g : Gr) (L : List Int) (k x y : Nat) : Prop := ∃ j, j < k ∧ ∃ r, g.rs[j]? = some r ∧ r.l = (x : Int) ∧ 0 ≤ totF L r.r 0 ∧ ∃ p : Nat, r.r[p]? = some ⟨false, (y : Int)⟩
def GrowI (g : Gr) (L : List Int) (k x y : Nat) : Prop := ∃ j, j < k ∧ ∃ r, g.rs[j]? = some r ∧ r.l = (x : Int) ∧ 0 ≤ totF L r.r 0 ∧ ∃ p : Nat, r.r[p]? = some ⟨false, (y : Int)⟩ ∧ ∃ q, BigL L r.r p q
theorem wayI_succ {g : Gr} {L : List Int} {k x y : Nat} {r : Ru} (hr : g.rs[k]? = some r) : WayI g L (k + 1) x y ↔ WayI g L k x y ∨ (r.l = (x : Int) ∧ 0 ≤ totF L r.r 0 ∧ ∃ p : Nat, r.r[p]? = some ⟨false, (y : Int)⟩) := by
  constructor
  · rintro ⟨j, hj, r', h1, h2⟩
    by_cases e : j = k
    · subst e; rw [hr] at h1; cases h1; exact .inr h2
    · exact .inl ⟨j, by omega, r', h1, h2⟩
  · rintro (⟨j, hj, r', h1, h2⟩ | h)
    · exact ⟨j, by omega, r', h1, h2⟩
    · exact ⟨k, by omega, r, hr, h⟩
theorem growI_succ {g : Gr} {L : List Int} {k x y : Nat} {r : Ru} (hr : g.rs[k]? = some r) : GrowI g L (k + 1) x y ↔ GrowI g L k x y ∨ (r.l = (x : Int) ∧ 0 ≤ totF L r.r 0 ∧ ∃ p : Nat, r.r[p]? = some ⟨false, (y : Int)⟩ ∧ ∃ q, BigL L r.r p q) := by
  constructor
  · rintro ⟨j, hj, r', h1, h2⟩
    by_cases e : j = k
    · subst e; rw [hr] at h1; cases h1; exact .inr h2
    · exact .inl ⟨j, by omega, r', h1, h2⟩
  · rintro (⟨j, hj, r', h1, h2⟩ | h)
    · exact ⟨j, by omega, r', h1, h2⟩
    · exact ⟨k, by omega, r, hr, h⟩
theorem wayI_all {g : Gr} {L : List Int} {x y : Nat} : WayI g L g.rs.length x y ↔ WayE g L x y := by
  constructor
  · rintro ⟨j, hj, r, h1, h2⟩
    exact ⟨r, List.mem_of_getElem? h1, h2⟩
  · rintro ⟨r, h1, h2⟩
    obtain ⟨j, hj, rfl⟩ := List.getElem_of_mem h1
    exact ⟨j, hj, _, List.getElem?_eq_getElem hj, h2⟩
theorem growI_all {g : Gr} {L : List Int} {x y : Nat} : GrowI g L g.rs.length x y ↔ GrowE g L x y := by
  constructor
  · rintro ⟨j, hj, r, h1, h2, h3, p, h4, q, z, h5, h6, h7⟩
    exact ⟨r, List.mem_of_getElem? h1, h2, h3, p, h4, q, z, h6, h5, h7⟩
  · rintro ⟨r, h1, h2, h3, p, h4, q, z, h6, h5, h7⟩
    obtain ⟨j, hj, rfl⟩ := List.getElem_of_mem h1
    exact ⟨j, hj, _, List.getElem?_eq_getElem hj, h2, h3, p, h4, q, z, h5, h6, h7⟩
theorem mset2_at {n : Nat} {w : List (List Bool)} (h : Sq n w) {b c : Nat} (hb : b < w.length) (v : Bool) : mset2 w b c v = w.set b (w[b].set c v) := by
  simp [mset2, hb]
theorem path_cong {E F : Nat → Nat → Prop} (h : ∀ x y, E x y → F x y) {n a b : Nat} (hp : PathK E n a b) : PathK F n a b := by
  induction hp with
  | one e => exact .one (h _ _ e)
  | trans _ hm _ ih1 ih2 => exact .trans ih1 hm ih2
/-- what is looked for -/
def EndM (g : Gr) (G W : List (List Bool)) (a b : Nat) : Prop := mat G a b = true ∧ (a = b ∨ mat W b a = true) ∧ (a = g.st.toNat ∨ mat W g.st.toNat a = true)
theorem endM_iff {g : Gr} {L : List Int} {n : Nat} {G W : List (List Bool)} (hW : Sq n W) (hG : Sq n G) (h1 : ∀ x y, mat W x y = true ↔ WayE g L x y) (h2 : ∀ x y, mat G x y = true ↔ GrowE g L x y) :
    (∃ a b, a < n ∧ b < n ∧ EndM g G (wN W n (n * n * n)) a b) ↔ EndE g L n := by
  have hp : ∀ b a, mat (wN W n (n * n * n)) b a = true ↔ PathK (WayE g L) n b a := fun b a => by
    rw [wN_iff hW]
    exact ⟨path_cong fun x y => (h1 x y).1, path_cong fun x y => (h1 x y).2⟩
  constructor
  · rintro ⟨a, b, ha, hb, q1, q2, q3⟩
    exact ⟨a, b, (h2 a b).1 q1, q2.imp id (hp _ _).1, q3.imp id (hp _ _).1⟩
  · rintro ⟨a, b, q1, q2, q3⟩
    have q1 := (h2 a b).2 q1
    have := mat_lt hG q1
    exact ⟨a, b, this.1, this.2, q1, q2.imp id (hp _ _).2, q3.imp id (hp _ _).2⟩
theorem rep_sq (n : Nat) : Sq n (List.replicate n (List.replicate n false)) := ⟨by simp, fun r hr => by rw [List.eq_of_mem_replicate hr]; simp⟩
theorem rep_mat (n x y : Nat) : mat (List.replicate n (List.replicate n false)) x y = false := by
  simp only [mat, List.getD_eq_getElem?_getD, List.getElem?_replicate]
  split
  · simp only [Option.getD_some, List.getElem?_replicate]; split <;> rfl
  · simp

theorem grow_upd {n rl sn p j : Nat} {L : List Int} {l : List Sy} {G2 G3 : List (List Bool)} (hs : Sq n G3) (hr : rl < n) (hsn : sn < n) (hm : ∀ x y, mat G3 x y = true ↔ mat G2 x y = true ∨ (x = rl ∧ y = sn ∧ ∃ q, q < j ∧ BigL L l p q)) (v : Bool) (hv : v = true ↔ mat G3 rl sn = true ∨ BigL L l p j) (x y : Nat) :
    mat (mset2 G3 rl sn v) x y = true ↔ mat G2 x y = true ∨ (x = rl ∧ y = sn ∧ ∃ q, q < j + 1 ∧ BigL L l p q) := by
  rw [mat_set hs v hr hsn]
  split
  · rename_i e
    obtain ⟨rfl, rfl⟩ := e
    rw [hv, hm]
    constructor
    · rintro ((h | ⟨_, _, q, h1, h2⟩) | h)
      · exact .inl h
      · exact .inr ⟨rfl, rfl, q, by omega, h2⟩
      · exact .inr ⟨rfl, rfl, j, by omega, h⟩
    · rintro (h | ⟨_, _, q, h1, h2⟩)
      · exact .inl (.inl h)
      · by_cases e : q = j
        · subst e; exact .inr h2
        · exact .inl (.inr ⟨rfl, rfl, q, by omega, h2⟩)
  · rename_i e
    rw [hm]
    refine or_congr_right ⟨fun ⟨h1, h2, _⟩ => absurd ⟨h1, h2⟩ e, fun ⟨h1, h2, _⟩ => absurd ⟨h1, h2⟩ e⟩
set_option maxHeartbeats 4000000 in
theorem lens_endless {Γr : Ctx} {g : Gr} {A : Option Addr} {c : Nat} (hx : SlOk (lk Γr) A c g.rs) (V : VG g) {L : List Int} {B : Option Addr} {d : Nat} (hL : SlOk (lk Γr) B d L) (hLl : L.length = g.ns.toNat) (hb : Few L) :
    Ret Try.prog 123 [.agg #[.int .i64 g.ts, .int .i64 g.ns, .int .i64 g.st, .slice A g.rs.length c], .slice B L.length d] Γr [] (fun v Γ => Γ = [] ∧ ∃ e, v = .bool e ∧ (e = true ↔ EndE g L g.ns.toNat)) := by
  generalize hR : (fun (v : Value) (Γ : Ctx) => Γ = [] ∧ ∃ e, _) = R
  refine ret_of_vc tr123 (Nat.le_of_ble_eq_true rfl) ?_
  have hns := V.ns
  have hvl := V.len
  obtain ⟨n, hn⟩ : ∃ n : Nat, g.ns = n := ⟨g.ns.toNat, by omega⟩
  have hn10 : n ≤ 10 := by omega
  rw [show g.ns.toNat = n by omega] at hR hLl
  rw [hn]
  simp -implicitDefEqProofs only [S123, S123_0, go_sem, Nat.reduceBEq, Nat.reduceAdd, Nat.reduceSub, Nat.reduceMul, Nat.reduceLeDiff, reduceCtorEq, ↓reduceIte, Int.reduceLT, Int.reduceLE, Int.reduceEq, Int.reduceNe]
  intro b
  refine s_drawn [] [] (Ent.refl _) ?_
  simp -implicitDefEqProofs only [go_sem, Nat.reduceBEq, Nat.reduceAdd, Nat.reduceSub, Nat.reduceMul, Nat.reduceLeDiff, reduceCtorEq, ↓reduceIte, Int.reduceLT, Int.reduceLE, Int.reduceEq, Int.reduceNe]
  refine CallVC.pure (lens_square (Γr := []) n (by omega)) (List.nil_sublist _) ?_
  rintro v Γ' ⟨gW0, bW, rfl, rfl, hW0⟩
  simp -implicitDefEqProofs only [go_sem, Nat.reduceBEq, Nat.reduceAdd, Nat.reduceSub, Nat.reduceMul, Nat.reduceLeDiff, reduceCtorEq, ↓reduceIte, Int.reduceLT, Int.reduceLE, Int.reduceEq, Int.reduceNe]
  refine CallVC.pure (lens_square (Γr := []) n (by omega)) (List.nil_sublist _) ?_
  rintro v Γ' ⟨gG0, bG, rfl, rfl, hG0⟩
  simp -implicitDefEqProofs only [go_sem, Nat.reduceBEq, Nat.reduceAdd, Nat.reduceSub, Nat.reduceMul, Nat.reduceLeDiff, reduceCtorEq, ↓reduceIte, Int.reduceLT, Int.reduceLE, Int.reduceEq, Int.reduceNe]
  refine s_loop (fun f vs Γ => ∃ gG gW, Γ = [gG, gW] ∧ ∃ (k : Nat) (W G : List (List Bool)), vs = [.v true (.int .i64 k)] ∧ k + f = g.rs.length ∧ Grid gW bW 22 4 W ∧ Grid gG bG 22 4 G ∧ Sq n W ∧ Sq n G ∧ (∀ x y, mat W x y = true ↔ WayI g L k x y) ∧ (∀ x y, mat G x y = true ↔ GrowI g L k x y)) g.rs.length
    (Up.here ⟨_, _, rfl, 0, _, _, rfl, by omega, hW0, hG0, rep_sq n, rep_sq n, fun x y => ?_, fun x y => ?_⟩) ?_
  · rw [rep_mat]
    exact ⟨fun h => Bool.noConfusion h, fun ⟨j, hj, _⟩ => by omega⟩
  · rw [rep_mat]
    exact ⟨fun h => Bool.noConfusion h, fun ⟨j, hj, _⟩ => by omega⟩
  rintro f vs Γ ⟨gG, gW, rfl, k, W, G, rfl, hkf, hWg, hGg, hWs, hGs, hWm, hGm⟩
  simp -implicitDefEqProofs only [S123_7, go_sem, Nat.reduceBEq, Nat.reduceAdd, Nat.reduceSub, Nat.reduceMul, Nat.reduceLeDiff, reduceCtorEq, ↓reduceIte, Int.reduceLT, Int.reduceLE, Int.reduceEq, Int.reduceNe]
  refine ⟨fun hlt => ?_, fun hge => ?_⟩
  · have hk : k < g.rs.length := by omega
    have hmem : g.rs[k] ∈ g.rs := List.getElem_mem hk
    have hrk : g.rs[k]? = some g.rs[k] := List.getElem?_eq_getElem hk
    have hleft := V.left _ hmem
    have hr4 := V.right _ hmem
    have hsym := V.sym _ hmem
    obtain ⟨b1, o1, hA2, A3, c3, hr3, hc2⟩ := hx.ru hk
    generalize g.rs[k] = r at *
    obtain ⟨rl, hml⟩ : ∃ m : Nat, r.l = m := ⟨r.l.toNat, by omega⟩
    have hrl : rl < n := by omega
    refine s_split ?_
    simp -implicitDefEqProofs only [S123_5, S123_6, go_sem, Nat.reduceBEq, Nat.reduceAdd, Nat.reduceSub, Nat.reduceMul, Nat.reduceLeDiff, reduceCtorEq, ↓reduceIte, Int.reduceLT, Int.reduceLE, Int.reduceEq, Int.reduceNe]
    refine s_idx hA2 (by omega) (by omega) ?_
    simp -implicitDefEqProofs only [go_sem, Nat.reduceBEq, Nat.reduceAdd, Nat.reduceSub, Nat.reduceMul, Nat.reduceLeDiff, reduceCtorEq, ↓reduceIte, Int.reduceLT, Int.reduceLE, Int.reduceEq, Int.reduceNe]
    refine s_ld0 (hc2 _ (lk_r _ _)) (by simp) (by simp) ?_
    simp -implicitDefEqProofs only [go_sem, Nat.reduceBEq, Nat.reduceAdd, Nat.reduceSub, Nat.reduceMul, Nat.reduceLeDiff, reduceCtorEq, ↓reduceIte, Int.reduceLT, Int.reduceLE, Int.reduceEq, Int.reduceNe]
    intro b2
    refine CallVC.read (lens_total (hr3.mono (lk_r _ _)) (hL.mono (lk_r _ _)) hr4 (fun s hs ht => by have := hsym s hs; have := this.2.2 ht; omega) hb) ?_
    rintro v Γ' ⟨rfl, rfl⟩
    simp -implicitDefEqProofs only [go_sem, Nat.reduceBEq, Nat.reduceAdd, Nat.reduceSub, Nat.reduceMul, Nat.reduceLeDiff, reduceCtorEq, ↓reduceIte, Int.reduceLT, Int.reduceLE, Int.reduceEq, Int.reduceNe]
    refine ⟨fun hneg => ?_, fun hpos => ?_⟩
    · simp (disch := omega) only [wrap_id]
      refine Up.here ⟨f - 1, by omega, Up.here ⟨_, _, rfl, k + 1, W, G, rfl, by omega, hWg, hGg, hWs, hGs, fun x y => ?_, fun x y => ?_⟩⟩
      · rw [hWm, wayI_succ hrk]
        exact ⟨.inl, fun h => h.resolve_right fun q => by omega⟩
      · rw [hGm, growI_succ hrk]
        exact ⟨.inl, fun h => h.resolve_right fun q => by omega⟩
    · refine s_loop (fun f2 vs Γ => ∃ gG gW, Γ = [gG, gW] ∧ ∃ (p : Nat) (W2 G2 : List (List Bool)), vs = [.v true (.int .i64 p)] ∧ p + f2 = r.r.length ∧ Grid gW bW 22 4 W2 ∧ Grid gG bG 22 4 G2 ∧ Sq n W2 ∧ Sq n G2 ∧
          (∀ x y, mat W2 x y = true ↔ mat W x y = true ∨ (rl = x ∧ ∃ p' : Nat, p' < p ∧ r.r[p']? = some ⟨false, (y : Int)⟩)) ∧ (∀ x y, mat G2 x y = true ↔ mat G x y = true ∨ (rl = x ∧ ∃ p' : Nat, p' < p ∧ r.r[p']? = some ⟨false, (y : Int)⟩ ∧ ∃ q, BigL L r.r p' q))) r.r.length
        (Up.here ⟨_, _, rfl, 0, W, G, rfl, by omega, hWg, hGg, hWs, hGs, fun x y => ⟨.inl, fun h => h.resolve_right fun ⟨_, p', h, _⟩ => by omega⟩, fun x y => ⟨.inl, fun h => h.resolve_right fun ⟨_, p', h, _⟩ => by omega⟩⟩) ?_
      rintro f2 vs Γ ⟨gG2, gW2, rfl, p, W2, G2, rfl, hpf, hWg2, hGg2, hWs2, hGs2, hWm2, hGm2⟩
      simp -implicitDefEqProofs only [S123_4, go_sem, Nat.reduceBEq, Nat.reduceAdd, Nat.reduceSub, Nat.reduceMul, Nat.reduceLeDiff, reduceCtorEq, ↓reduceIte, Int.reduceLT, Int.reduceLE, Int.reduceEq, Int.reduceNe]
      refine ⟨fun hlt => ?_, fun hge => ?_⟩
      · have hp : p < r.r.length := by omega
        have hsp := hsym _ (List.getElem_mem hp)
        obtain ⟨b3, o3, hA4, hc4⟩ := hr3.sy hp
        refine s_split ?_
        simp -implicitDefEqProofs only [S123_2, S123_3, go_sem, Nat.reduceBEq, Nat.reduceAdd, Nat.reduceSub, Nat.reduceMul, Nat.reduceLeDiff, reduceCtorEq, ↓reduceIte, Int.reduceLT, Int.reduceLE, Int.reduceEq, Int.reduceNe]
        refine s_idx hA4 (by omega) (by omega) ?_
        simp -implicitDefEqProofs only [go_sem, Nat.reduceBEq, Nat.reduceAdd, Nat.reduceSub, Nat.reduceMul, Nat.reduceLeDiff, reduceCtorEq, ↓reduceIte, Int.reduceLT, Int.reduceLE, Int.reduceEq, Int.reduceNe]
        refine s_ld0 (hc4 _ (lk_r _ _)) (by simp) (by simp) ?_
        simp -implicitDefEqProofs only [go_sem, Nat.reduceBEq, Nat.reduceAdd, Nat.reduceSub, Nat.reduceMul, Nat.reduceLeDiff, reduceCtorEq, ↓reduceIte, Int.reduceLT, Int.reduceLE, Int.reduceEq, Int.reduceNe]
        intro b4
        refine ⟨fun ht => ?_, fun ht => ?_⟩
        · simp (disch := omega) only [wrap_id]
          refine Up.here ⟨f2 - 1, by omega, Up.here ⟨_, _, rfl, p + 1, W2, G2, rfl, by omega, hWg2, hGg2, hWs2, hGs2, fun x y => ?_, fun x y => ?_⟩⟩
          · rw [hWm2]
            refine or_congr_right (and_congr_right fun _ => ⟨fun ⟨p', h1, h2⟩ => ⟨p', by omega, h2⟩, fun ⟨p', h1, h2⟩ => ⟨p', ?_, h2⟩⟩)
            rcases Nat.lt_or_ge p' p with q | q
            · exact q
            · have : p' = p := by omega
              subst this
              rw [List.getElem?_eq_getElem hp] at h2
              simp only [Option.some.injEq] at h2
              rw [h2] at ht
              cases ht
          · rw [hGm2]
            refine or_congr_right (and_congr_right fun _ => ⟨fun ⟨p', h1, h2⟩ => ⟨p', by omega, h2⟩, fun ⟨p', h1, h2⟩ => ⟨p', ?_, h2⟩⟩)
            rcases Nat.lt_or_ge p' p with q | q
            · exact q
            · have : p' = p := by omega
              subst this
              have h2 := h2.1
              rw [List.getElem?_eq_getElem hp] at h2
              simp only [Option.some.injEq] at h2
              rw [h2] at ht
              cases ht
        · have hsn := hsp.2.2 ht
          obtain ⟨sn, hsne⟩ : ∃ m : Nat, r.r[p].n = m := ⟨r.r[p].n.toNat, by omega⟩
          have hspe : r.r[p]? = some ⟨false, (sn : Int)⟩ := by
            rw [List.getElem?_eq_getElem hp, ← hsne, ← ht]
          have hsnn : sn < n := by omega
          have hlW := hWs2.len
          have hlG := hGs2.len
          have hrW := hWs2.at' (b := rl) (by omega)
          obtain ⟨kb, hcell, hArr, hput⟩ := hWg2.at' (i := rl) (by omega) (by omega)
          rw [hsne, hml]
          refine s_idx rfl (by omega) (by omega) ?_
          simp -implicitDefEqProofs only [go_sem, Nat.reduceBEq, Nat.reduceAdd, Nat.reduceSub, Nat.reduceMul, Nat.reduceLeDiff, reduceCtorEq, ↓reduceIte, Int.reduceLT, Int.reduceLE, Int.reduceEq, Int.reduceNe]
          refine s_ld0 (hcell _ (by simp)) (by simp) (by simp) ?_
          simp -implicitDefEqProofs only [go_sem, Nat.reduceBEq, Nat.reduceAdd, Nat.reduceSub, Nat.reduceMul, Nat.reduceLeDiff, reduceCtorEq, ↓reduceIte, Int.reduceLT, Int.reduceLE, Int.reduceEq, Int.reduceNe]
          refine s_idx rfl (by omega) (by omega) ?_
          simp -implicitDefEqProofs only [go_sem, Nat.reduceBEq, Nat.reduceAdd, Nat.reduceSub, Nat.reduceMul, Nat.reduceLeDiff, reduceCtorEq, ↓reduceIte, Int.reduceLT, Int.reduceLE, Int.reduceEq, Int.reduceNe]
          refine s_storeA (ix := 1) (α := Bool) true rfl hArr (i := sn) (by omega) ?_
          intro g9 hA9 ho9
          have hG9 := hput g9 _ hA9 (by simp) ho9
          rw [← mset2_at hWs2 (by omega)] at hG9
          simp -implicitDefEqProofs only [go_sem, Nat.reduceBEq, Nat.reduceAdd, Nat.reduceSub, Nat.reduceMul, Nat.reduceLeDiff, reduceCtorEq, ↓reduceIte, Int.reduceLT, Int.reduceLE, Int.reduceEq, Int.reduceNe]
          refine s_loop (fun f3 vs Γ => ∃ gG gW, Γ = [gG, gW] ∧ ∃ (j : Nat) (G3 : List (List Bool)), vs = [.v true (.int .i64 j)] ∧ j + f3 = r.r.length ∧ Grid gW bW 22 4 (mset2 W2 rl sn true) ∧ Grid gG bG 22 4 G3 ∧ Sq n G3 ∧
              (∀ x y, mat G3 x y = true ↔ mat G2 x y = true ∨ (x = rl ∧ y = sn ∧ ∃ q, q < j ∧ BigL L r.r p q))) r.r.length
            (Up.here ⟨_, _, rfl, 0, G2, rfl, by omega, hG9, hGg2, hGs2, fun x y => ⟨.inl, fun h => h.resolve_right fun ⟨_, _, q, h, _⟩ => by omega⟩⟩) ?_
          rintro f3 vs Γ ⟨gG3, gW3, rfl, j, G3, rfl, hjf, hWg3, hGg3, hGs3, hGm3⟩
          simp -implicitDefEqProofs only [S123_1, go_sem, Nat.reduceBEq, Nat.reduceAdd, Nat.reduceSub, Nat.reduceMul, Nat.reduceLeDiff, reduceCtorEq, ↓reduceIte, Int.reduceLT, Int.reduceLE, Int.reduceEq, Int.reduceNe]
          refine ⟨fun hlt => ?_, fun hge => ?_⟩
          · have hj : j < r.r.length := by omega
            have hsj := hsym _ (List.getElem_mem hj)
            obtain ⟨b5, o5, hA5, hc5⟩ := hr3.sy hj
            refine s_idx hA5 (by omega) (by omega) ?_
            simp -implicitDefEqProofs only [go_sem, Nat.reduceBEq, Nat.reduceAdd, Nat.reduceSub, Nat.reduceMul, Nat.reduceLeDiff, reduceCtorEq, ↓reduceIte, Int.reduceLT, Int.reduceLE, Int.reduceEq, Int.reduceNe]
            refine s_ld0 (hc5 _ (lk_r _ _)) (by simp) (by simp) ?_
            simp -implicitDefEqProofs only [go_sem, Nat.reduceBEq, Nat.reduceAdd, Nat.reduceSub, Nat.reduceMul, Nat.reduceLeDiff, reduceCtorEq, ↓reduceIte, Int.reduceLT, Int.reduceLE, Int.reduceEq, Int.reduceNe]
            intro b6
            have hlG3 := hGs3.len
            have hrG := hGs3.at' (b := rl) (by omega)
            obtain ⟨kg, hcellG, hArrG, hputG⟩ := hGg3.at' (i := rl) (by omega) (by omega)
            have hsnr : sn < G3[rl].length := by omega
            have hmat : mat G3 rl sn = G3[rl][sn] := mat_at (by omega) hsnr
            refine s_idx rfl (by omega) (by omega) ?_
            simp -implicitDefEqProofs only [go_sem, Nat.reduceBEq, Nat.reduceAdd, Nat.reduceSub, Nat.reduceMul, Nat.reduceLeDiff, reduceCtorEq, ↓reduceIte, Int.reduceLT, Int.reduceLE, Int.reduceEq, Int.reduceNe]
            refine s_ld0 (hcellG _ (by simp)) (by simp) (by simp) ?_
            simp -implicitDefEqProofs only [go_sem, Nat.reduceBEq, Nat.reduceAdd, Nat.reduceSub, Nat.reduceMul, Nat.reduceLeDiff, reduceCtorEq, ↓reduceIte, Int.reduceLT, Int.reduceLE, Int.reduceEq, Int.reduceNe]
            refine s_idx rfl (by omega) (by omega) ?_
            simp -implicitDefEqProofs only [go_sem, Nat.reduceBEq, Nat.reduceAdd, Nat.reduceSub, Nat.reduceMul, Nat.reduceLeDiff, reduceCtorEq, ↓reduceIte, Int.reduceLT, Int.reduceLE, Int.reduceEq, Int.reduceNe]
            refine s_ld0 (hcellG _ (by simp)) (by simp) (by simp) ?_
            simp -implicitDefEqProofs only [go_sem, Nat.reduceBEq, Nat.reduceAdd, Nat.reduceSub, Nat.reduceMul, Nat.reduceLeDiff, reduceCtorEq, ↓reduceIte, Int.reduceLT, Int.reduceLE, Int.reduceEq, Int.reduceNe]
            refine s_idx rfl (by omega) (by omega) ?_
            simp -implicitDefEqProofs only [go_sem, Nat.reduceBEq, Nat.reduceAdd, Nat.reduceSub, Nat.reduceMul, Nat.reduceLeDiff, reduceCtorEq, ↓reduceIte, Int.reduceLT, Int.reduceLE, Int.reduceEq, Int.reduceNe]
            refine s_ld0 (hArrG.bool hsnr (by simp)) (by simp) (by simp) ?_
            simp -implicitDefEqProofs only [go_sem, Nat.reduceBEq, Nat.reduceAdd, Nat.reduceSub, Nat.reduceMul, Nat.reduceLeDiff, reduceCtorEq, ↓reduceIte, Int.reduceLT, Int.reduceLE, Int.reduceEq, Int.reduceNe]
            have fin : ∀ v : Bool, (v = true ↔ G3[rl][sn] = true ∨ BigL L r.r p j) → ∀ g' : PH, Arr g' kg 4 (G3[rl].set sn v) → (∀ k, k ≠ kg → g' k = gG3 k) → ∃ n', n' < f3 ∧ Up [g', gW3] fun Γ => ∃ gG gW, Γ = [gG, gW] ∧ ∃ (j' : Nat) (G3 : List (List Bool)), [Sl.v true (Value.int IntKind.i64 ((j : Int) + 1))] = [Sl.v true (Value.int IntKind.i64 j')] ∧ j' + n' = r.r.length ∧ Grid gW bW 22 4 (mset2 W2 rl sn true) ∧ Grid gG bG 22 4 G3 ∧ Sq n G3 ∧
              (∀ x y, mat G3 x y = true ↔ mat G2 x y = true ∨ (x = rl ∧ y = sn ∧ ∃ q, q < j' ∧ BigL L r.r p q)) := by
              intro v hv g' hA' ho'
              have hG' := hputG g' _ hA' (by simp) ho'
              rw [← mset2_at hGs3 (by omega)] at hG'
              exact ⟨f3 - 1, by omega, Up.here ⟨_, _, rfl, j + 1, _, rfl, by omega, hWg3, hG', hGs3.set _ _ _, grow_upd hGs3 hrl hsnn hGm3 v (by rw [hv, hmat])⟩⟩
            have hbig : BigL L r.r p j ↔ (¬ (j : Int) = p ∧ (r.r[j].t = true ∨ 0 < lgt L r.r[j].n)) := by
              constructor
              · rintro ⟨x, h1, h2, h3⟩
                rw [List.getElem?_eq_getElem hj] at h1
                cases h1
                exact ⟨by omega, h3⟩
              · rintro ⟨h1, h2⟩
                exact ⟨_, List.getElem?_eq_getElem hj, by omega, h2⟩
            rw [hbig] at fin
            cases hxt : r.r[j].t with
            | true =>
              rw [hxt] at fin
              simp -implicitDefEqProofs only [go_sem, Nat.reduceBEq, Nat.reduceAdd, Nat.reduceSub, Nat.reduceMul, Nat.reduceLeDiff, reduceCtorEq, ↓reduceIte, Int.reduceLT, Int.reduceLE, Int.reduceEq, Int.reduceNe]
              refine s_idxg (b := 0) (o := 0) (by simp) ?_
              simp -implicitDefEqProofs only [go_sem, Nat.reduceBEq, Nat.reduceAdd, Nat.reduceSub, Nat.reduceMul, Nat.reduceLeDiff, reduceCtorEq, ↓reduceIte, Int.reduceLT, Int.reduceLE, Int.reduceEq, Int.reduceNe]
              refine s_ldg0 (cs := [.int .i64 0]) (by simp) (by simp) (by simp) (by simp) ?_
              simp -implicitDefEqProofs only [go_sem, Nat.reduceBEq, Nat.reduceAdd, Nat.reduceSub, Nat.reduceMul, Nat.reduceLeDiff, reduceCtorEq, ↓reduceIte, Int.reduceLT, Int.reduceLE, Int.reduceEq, Int.reduceNe]
              refine ⟨by intros; simp_all, ?_⟩
              refine s_idx rfl (by omega) (by omega) ?_
              simp -implicitDefEqProofs only [go_sem, Nat.reduceBEq, Nat.reduceAdd, Nat.reduceSub, Nat.reduceMul, Nat.reduceLeDiff, reduceCtorEq, ↓reduceIte, Int.reduceLT, Int.reduceLE, Int.reduceEq, Int.reduceNe]
              refine s_storeA (ix := 0) (α := Bool) _ rfl hArrG hsnr ?_
              intro g' hA' ho'
              simp -implicitDefEqProofs only [go_sem, Nat.reduceBEq, Nat.reduceAdd, Nat.reduceSub, Nat.reduceMul, Nat.reduceLeDiff, reduceCtorEq, ↓reduceIte, Int.reduceLT, Int.reduceLE, Int.reduceEq, Int.reduceNe]
              simp (disch := omega) only [wrap_id]
              refine fin _ ?_ g' hA' ho'
              cases G3[rl][sn] <;> simp
            | false =>
              have hxn := hsj.2.2 hxt
              obtain ⟨xn, hxne⟩ : ∃ m : Nat, r.r[j].n = m := ⟨r.r[j].n.toNat, by omega⟩
              have hxnL : xn < L.length := by omega
              obtain ⟨b7, o7, hA7, hc7⟩ := hL.int hxnL
              rw [hxt, hxne] at fin
              rw [hxne]
              have hlgx : lgt L xn = L[xn] := by simp [lgt, hxnL]
              rw [hlgx] at fin
              simp -implicitDefEqProofs only [go_sem, Nat.reduceBEq, Nat.reduceAdd, Nat.reduceSub, Nat.reduceMul, Nat.reduceLeDiff, reduceCtorEq, ↓reduceIte, Int.reduceLT, Int.reduceLE, Int.reduceEq, Int.reduceNe]
              refine s_idxg (fun he => ⟨by first | exact he | rfl | simp_all, by first | exact he | rfl | simp_all, hA7, by omega, by omega⟩) ?_
              simp -implicitDefEqProofs only [go_sem, Nat.reduceBEq, Nat.reduceAdd, Nat.reduceSub, Nat.reduceMul, Nat.reduceLeDiff, reduceCtorEq, ↓reduceIte, Int.reduceLT, Int.reduceLE, Int.reduceEq, Int.reduceNe]
              refine s_ldg0 (fun he => by first | exact he | rfl | simp_all) (fun _ => hc7 _ (lk_r _ _)) (by simp) (by simp) ?_
              simp -implicitDefEqProofs only [go_sem, Nat.reduceBEq, Nat.reduceAdd, Nat.reduceSub, Nat.reduceMul, Nat.reduceLeDiff, reduceCtorEq, ↓reduceIte, Int.reduceLT, Int.reduceLE, Int.reduceEq, Int.reduceNe]
              refine ⟨by intros; simp_all, ?_⟩
              refine s_idx rfl (by omega) (by omega) ?_
              simp -implicitDefEqProofs only [go_sem, Nat.reduceBEq, Nat.reduceAdd, Nat.reduceSub, Nat.reduceMul, Nat.reduceLeDiff, reduceCtorEq, ↓reduceIte, Int.reduceLT, Int.reduceLE, Int.reduceEq, Int.reduceNe]
              refine s_storeA (ix := 0) (α := Bool) _ rfl hArrG hsnr ?_
              intro g' hA' ho'
              simp -implicitDefEqProofs only [go_sem, Nat.reduceBEq, Nat.reduceAdd, Nat.reduceSub, Nat.reduceMul, Nat.reduceLeDiff, reduceCtorEq, ↓reduceIte, Int.reduceLT, Int.reduceLE, Int.reduceEq, Int.reduceNe]
              simp (disch := omega) only [wrap_id]
              refine fin _ ?_ g' hA' ho'
              cases G3[rl][sn] <;> simp
          · have hj : j = r.r.length := by omega
            subst hj
            simp (disch := omega) only [wrap_id]
            refine Up.here ⟨f2 - 1, by omega, Up.here ⟨_, _, rfl, p + 1, _, G3, rfl, by omega, hWg3, hGg3, hWs2.set _ _ _, hGs3, fun x y => ?_, fun x y => ?_⟩⟩
            · rw [mat_set hWs2 true hrl hsnn]
              split
              · rename_i e
                obtain ⟨rfl, rfl⟩ := e
                exact ⟨fun _ => .inr ⟨rfl, p, by omega, hspe⟩, fun _ => rfl⟩
              · rename_i e
                rw [hWm2]
                refine or_congr_right (and_congr_right fun h0 => ⟨fun ⟨p', h1, h2⟩ => ⟨p', by omega, h2⟩, fun ⟨p', h1, h2⟩ => ⟨p', ?_, h2⟩⟩)
                rcases Nat.lt_or_ge p' p with q | q
                · exact q
                · have : p' = p := by omega
                  subst this
                  rw [hspe] at h2
                  simp only [Option.some.injEq, Sy.mk.injEq, true_and] at h2
                  exact absurd ⟨h0.symm, by omega⟩ e
            · rw [hGm3, hGm2]
              constructor
              · rintro ((h | ⟨h0, p', h1, h2⟩) | ⟨rfl, rfl, q, h1, h2⟩)
                · exact .inl h
                · exact .inr ⟨h0, p', by omega, h2⟩
                · exact .inr ⟨rfl, p, by omega, hspe, q, h2⟩
              · rintro (h | ⟨h0, p', h1, h2, q, h3⟩)
                · exact .inl (.inl h)
                · by_cases e : p' = p
                  · subst e
                    rw [hspe] at h2
                    simp only [Option.some.injEq, Sy.mk.injEq, true_and] at h2
                    refine .inr ⟨h0.symm, by omega, q, ?_, h3⟩
                    obtain ⟨z, h4, _⟩ := h3
                    exact (List.getElem?_eq_some_iff.1 h4).1
                  · exact .inl (.inr ⟨h0, p', by omega, h2, q, h3⟩)
      · have hp : p = r.r.length := by omega
        subst hp
        simp (disch := omega) only [wrap_id]
        refine Up.here ⟨f - 1, by omega, Up.here ⟨_, _, rfl, k + 1, W2, G2, rfl, by omega, hWg2, hGg2, hWs2, hGs2, fun x y => ?_, fun x y => ?_⟩⟩
        · rw [hWm2, hWm, wayI_succ hrk]
          refine or_congr_right ⟨fun ⟨h0, p', h1, h2⟩ => ⟨by omega, by omega, p', h2⟩, fun ⟨h0, _, p', h2⟩ => ⟨by omega, p', (List.getElem?_eq_some_iff.1 h2).1, h2⟩⟩
        · rw [hGm2, hGm, growI_succ hrk]
          refine or_congr_right ⟨fun ⟨h0, p', h1, h2⟩ => ⟨by omega, by omega, p', h2⟩, fun ⟨h0, _, p', h2⟩ => ⟨by omega, p', (List.getElem?_eq_some_iff.1 h2.1).1, h2⟩⟩
  · have hk : k = g.rs.length := by omega
    subst hk
    have hn0 : 0 < n := by omega
    have hst := V.st
    obtain ⟨st, hste⟩ : ∃ m : Nat, g.st = m := ⟨g.st.toNat, by omega⟩
    have hstn : st < n := by omega
    refine s_loop (fun f vs Γ => ∃ gG gW, Γ = [gG, gW] ∧ ∃ a : Nat, vs = [.v true (.int .i64 a)] ∧ a + f = n ∧ Grid gW bW 22 4 (wN W n (a * n * n)) ∧ Grid gG bG 22 4 G) n (Up.here ⟨_, _, rfl, 0, rfl, by omega, by simpa [wN] using hWg, hGg⟩) ?_
    rintro f vs Γ ⟨gG2, gW2, rfl, a, rfl, haf, hWg2, hGg2⟩
    simp -implicitDefEqProofs only [S123_10, go_sem, Nat.reduceBEq, Nat.reduceAdd, Nat.reduceSub, Nat.reduceMul, Nat.reduceLeDiff, reduceCtorEq, ↓reduceIte, Int.reduceLT, Int.reduceLE, Int.reduceEq, Int.reduceNe]
    refine ⟨fun hlt => ?_, fun hge => ?_⟩
    · have ha : a < n := by omega
      refine s_loop (fun f2 vs Γ => ∃ gG gW, Γ = [gG, gW] ∧ ∃ b : Nat, vs = [.v true (.int .i64 b)] ∧ b + f2 = n ∧ Grid gW bW 22 4 (wN W n ((a * n + b) * n)) ∧ Grid gG bG 22 4 G) n (Up.here ⟨_, _, rfl, 0, rfl, by omega, by simpa using hWg2, hGg2⟩) ?_
      rintro f2 vs Γ ⟨gG3, gW3, rfl, b, rfl, hbf, hWg3, hGg3⟩
      simp -implicitDefEqProofs only [S123_9, go_sem, Nat.reduceBEq, Nat.reduceAdd, Nat.reduceSub, Nat.reduceMul, Nat.reduceLeDiff, reduceCtorEq, ↓reduceIte, Int.reduceLT, Int.reduceLE, Int.reduceEq, Int.reduceNe]
      refine ⟨fun hlt => ?_, fun hge => ?_⟩
      · have hb : b < n := by omega
        refine s_loop (fun f3 vs Γ => ∃ gG gW, Γ = [gG, gW] ∧ ∃ c : Nat, vs = [.v true (.int .i64 c)] ∧ c + f3 = n ∧ Grid gW bW 22 4 (wN W n ((a * n + b) * n + c)) ∧ Grid gG bG 22 4 G) n (Up.here ⟨_, _, rfl, 0, rfl, by omega, by simpa using hWg3, hGg3⟩) ?_
        rintro f3 vs Γ ⟨gG4, gW4, rfl, c, rfl, hcf, hWg4, hGg4⟩
        simp -implicitDefEqProofs only [S123_8, go_sem, Nat.reduceBEq, Nat.reduceAdd, Nat.reduceSub, Nat.reduceMul, Nat.reduceLeDiff, reduceCtorEq, ↓reduceIte, Int.reduceLT, Int.reduceLE, Int.reduceEq, Int.reduceNe]
        refine ⟨fun hlt => ?_, fun hge => ?_⟩
        · have hc : c < n := by omega
          have hnext := wN_step W (a := a) hb hc
          have hsq := wN_sq hWs ((a * n + b) * n + c)
          generalize wN W n ((a * n + b) * n + c) = Q at *
          have hlQ := hsq.len
          have hrb := hsq.at' (b := b) (by omega)
          have hra := hsq.at' (b := a) (by omega)
          obtain ⟨kb, hcb, hAb, hput⟩ := hWg4.at' (i := b) (by omega) (by omega)
          obtain ⟨ka, hca, hAa, _⟩ := hWg4.at' (i := a) (by omega) (by omega)
          have cba : ∀ Γ : Ctx, gW4 ∈ Γ → Cells Γ kb a [.bool Q[b][a]] := fun Γ h => hAb.bool (by omega) h
          have cac : ∀ Γ : Ctx, gW4 ∈ Γ → Cells Γ ka c [.bool Q[a][c]] := fun Γ h => hAa.bool (by omega) h
          have m1 : mat Q b c = Q[b][c] := mat_at (by omega) (by omega)
          have m2 : mat Q b a = Q[b][a] := mat_at (by omega) (by omega)
          have m3 : mat Q a c = Q[a][c] := mat_at (by omega) (by omega)
          refine s_idx rfl (by omega) (by omega) ?_
          simp -implicitDefEqProofs only [go_sem, Nat.reduceBEq, Nat.reduceAdd, Nat.reduceSub, Nat.reduceMul, Nat.reduceLeDiff, reduceCtorEq, ↓reduceIte, Int.reduceLT, Int.reduceLE, Int.reduceEq, Int.reduceNe]
          refine s_ld0 (hcb _ (by simp)) (by simp) (by simp) ?_
          simp -implicitDefEqProofs only [go_sem, Nat.reduceBEq, Nat.reduceAdd, Nat.reduceSub, Nat.reduceMul, Nat.reduceLeDiff, reduceCtorEq, ↓reduceIte, Int.reduceLT, Int.reduceLE, Int.reduceEq, Int.reduceNe]
          refine s_idx rfl (by omega) (by omega) ?_
          simp -implicitDefEqProofs only [go_sem, Nat.reduceBEq, Nat.reduceAdd, Nat.reduceSub, Nat.reduceMul, Nat.reduceLeDiff, reduceCtorEq, ↓reduceIte, Int.reduceLT, Int.reduceLE, Int.reduceEq, Int.reduceNe]
          refine s_ld0 (hcb _ (by simp)) (by simp) (by simp) ?_
          simp -implicitDefEqProofs only [go_sem, Nat.reduceBEq, Nat.reduceAdd, Nat.reduceSub, Nat.reduceMul, Nat.reduceLeDiff, reduceCtorEq, ↓reduceIte, Int.reduceLT, Int.reduceLE, Int.reduceEq, Int.reduceNe]
          refine s_idx rfl (by omega) (by omega) ?_
          simp -implicitDefEqProofs only [go_sem, Nat.reduceBEq, Nat.reduceAdd, Nat.reduceSub, Nat.reduceMul, Nat.reduceLeDiff, reduceCtorEq, ↓reduceIte, Int.reduceLT, Int.reduceLE, Int.reduceEq, Int.reduceNe]
          refine s_ld0 (hAb.bool (i := c) (by omega) (by simp)) (by simp) (by simp) ?_
          simp -implicitDefEqProofs only [go_sem, Nat.reduceBEq, Nat.reduceAdd, Nat.reduceSub, Nat.reduceMul, Nat.reduceLeDiff, reduceCtorEq, ↓reduceIte, Int.reduceLT, Int.reduceLE, Int.reduceEq, Int.reduceNe]
          refine s_idxg (fun he => ⟨by first | exact he | rfl | simp_all, by first | exact he | rfl | simp_all, rfl, by omega, by omega⟩) ?_
          simp -implicitDefEqProofs only [go_sem, Nat.reduceBEq, Nat.reduceAdd, Nat.reduceSub, Nat.reduceMul, Nat.reduceLeDiff, reduceCtorEq, ↓reduceIte, Int.reduceLT, Int.reduceLE, Int.reduceEq, Int.reduceNe]
          refine s_ldg0 (fun he => by first | exact he | rfl | simp_all) (fun _ => hcb _ (by simp)) (by simp) (by simp) ?_
          simp -implicitDefEqProofs only [go_sem, Nat.reduceBEq, Nat.reduceAdd, Nat.reduceSub, Nat.reduceMul, Nat.reduceLeDiff, reduceCtorEq, ↓reduceIte, Int.reduceLT, Int.reduceLE, Int.reduceEq, Int.reduceNe]
          refine s_idxg (fun he => ⟨by first | exact he | rfl | simp_all, by first | exact he | rfl | simp_all, rfl, by omega, by omega⟩) ?_
          simp -implicitDefEqProofs only [go_sem, Nat.reduceBEq, Nat.reduceAdd, Nat.reduceSub, Nat.reduceMul, Nat.reduceLeDiff, reduceCtorEq, ↓reduceIte, Int.reduceLT, Int.reduceLE, Int.reduceEq, Int.reduceNe]
          refine s_ldg0 (fun he => by first | exact he | rfl | simp_all) (fun _ => cba _ (by simp)) (by simp) (by simp) ?_
          simp -implicitDefEqProofs only [go_sem, Nat.reduceBEq, Nat.reduceAdd, Nat.reduceSub, Nat.reduceMul, Nat.reduceLeDiff, reduceCtorEq, ↓reduceIte, Int.reduceLT, Int.reduceLE, Int.reduceEq, Int.reduceNe]
          refine s_idxg (fun he => ⟨by first | exact he | rfl | simp_all, by first | exact he | rfl | simp_all, rfl, by omega, by omega⟩) ?_
          simp -implicitDefEqProofs only [go_sem, Nat.reduceBEq, Nat.reduceAdd, Nat.reduceSub, Nat.reduceMul, Nat.reduceLeDiff, reduceCtorEq, ↓reduceIte, Int.reduceLT, Int.reduceLE, Int.reduceEq, Int.reduceNe]
          refine s_ldg0 (fun he => by first | exact he | rfl | simp_all) (fun _ => hca _ (by simp)) (by simp) (by simp) ?_
          simp -implicitDefEqProofs only [go_sem, Nat.reduceBEq, Nat.reduceAdd, Nat.reduceSub, Nat.reduceMul, Nat.reduceLeDiff, reduceCtorEq, ↓reduceIte, Int.reduceLT, Int.reduceLE, Int.reduceEq, Int.reduceNe]
          refine s_idxg (fun he => ⟨by first | exact he | rfl | simp_all, by first | exact he | rfl | simp_all, rfl, by omega, by omega⟩) ?_
          simp -implicitDefEqProofs only [go_sem, Nat.reduceBEq, Nat.reduceAdd, Nat.reduceSub, Nat.reduceMul, Nat.reduceLeDiff, reduceCtorEq, ↓reduceIte, Int.reduceLT, Int.reduceLE, Int.reduceEq, Int.reduceNe]
          refine s_ldg0 (fun he => by first | exact he | rfl | simp_all) (fun _ => cac _ (by simp)) (by simp) (by simp) ?_
          simp -implicitDefEqProofs only [go_sem, Nat.reduceBEq, Nat.reduceAdd, Nat.reduceSub, Nat.reduceMul, Nat.reduceLeDiff, reduceCtorEq, ↓reduceIte, Int.reduceLT, Int.reduceLE, Int.reduceEq, Int.reduceNe]
          refine ⟨by intros; simp_all, ?_⟩
          refine s_idx rfl (by omega) (by omega) ?_
          simp -implicitDefEqProofs only [go_sem, Nat.reduceBEq, Nat.reduceAdd, Nat.reduceSub, Nat.reduceMul, Nat.reduceLeDiff, reduceCtorEq, ↓reduceIte, Int.reduceLT, Int.reduceLE, Int.reduceEq, Int.reduceNe]
          refine s_storeA (ix := 1) (α := Bool) _ rfl hAb (i := c) (by omega) ?_
          intro g' hA' ho'
          have hG' := hput g' _ hA' (by simp) ho'
          rw [← mset2_at hsq (by omega), ← m1, ← m2, ← m3] at hG'
          simp -implicitDefEqProofs only [go_sem, Nat.reduceBEq, Nat.reduceAdd, Nat.reduceSub, Nat.reduceMul, Nat.reduceLeDiff, reduceCtorEq, ↓reduceIte, Int.reduceLT, Int.reduceLE, Int.reduceEq, Int.reduceNe]
          simp (disch := omega) only [wrap_id]
          exact ⟨f3 - 1, by omega, Up.here ⟨_, _, rfl, c + 1, rfl, by omega, by rw [← Nat.add_assoc, hnext]; exact hG', hGg4⟩⟩
        · have hc : c = n := by omega
          subst hc
          simp (disch := omega) only [wrap_id]
          refine ⟨f2 - 1, by omega, Up.here ⟨_, _, rfl, b + 1, rfl, by omega, ?_, hGg4⟩⟩
          rw [show (a * c + (b + 1)) * c = (a * c + b) * c + c by rw [← Nat.add_assoc, Nat.add_mul _ 1, Nat.one_mul]]
          exact hWg4
      · have hb : b = n := by omega
        subst hb
        simp (disch := omega) only [wrap_id]
        refine ⟨f - 1, by omega, Up.here ⟨_, _, rfl, a + 1, rfl, by omega, ?_, hGg3⟩⟩
        rw [show (a + 1) * b * b = (a * b + b) * b by rw [Nat.add_mul a 1, Nat.one_mul]]
        exact hWg3
    · have ha : a = n := by omega
      rw [ha] at hWg2
      have hend := endM_iff (g := g) (L := L) hWs hGs (fun x y => (hWm x y).trans wayI_all) (fun x y => (hGm x y).trans growI_all)
      have hQ := wN_sq hWs (n * n * n)
      generalize wN W n (n * n * n) = Q at *
      have hlQ := hQ.len
      have hlG := hGs.len
      have hrs := hQ.at' (b := st) (by omega)
      obtain ⟨ks, hcs, hAs, _⟩ := hWg2.at' (i := st) (by omega) (by omega)
      refine s_loop (fun f vs Γ => Γ = [gG2, gW2] ∧ ∃ a : Nat, vs = [.v true (.int .i64 a)] ∧ a + f = n ∧ ∀ a' b', a' < a → b' < n → ¬ EndM g G Q a' b') n (Up.here ⟨rfl, 0, rfl, by omega, fun a' b' h => by omega⟩) ?_
      rintro f vs Γ ⟨rfl, a, rfl, haf, hno⟩
      simp -implicitDefEqProofs only [S123_12, go_sem, Nat.reduceBEq, Nat.reduceAdd, Nat.reduceSub, Nat.reduceMul, Nat.reduceLeDiff, reduceCtorEq, ↓reduceIte, Int.reduceLT, Int.reduceLE, Int.reduceEq, Int.reduceNe]
      refine ⟨fun hlt => ?_, fun hge => ?_⟩
      · have ha : a < n := by omega
        have hra := hGs.at' (b := a) (by omega)
        obtain ⟨ka, hca, hAa, _⟩ := hGg2.at' (i := a) (by omega) (by omega)
        refine s_loop (fun f2 vs Γ => Γ = [gG2, gW2] ∧ ∃ b : Nat, vs = [.v true (.int .i64 b)] ∧ b + f2 = n ∧ ∀ b', b' < b → ¬ EndM g G Q a b') n (Up.here ⟨rfl, 0, rfl, by omega, fun b' h => by omega⟩) ?_
        rintro f2 vs Γ ⟨rfl, b, rfl, hbf, hno2⟩
        simp -implicitDefEqProofs only [S123_11, go_sem, Nat.reduceBEq, Nat.reduceAdd, Nat.reduceSub, Nat.reduceMul, Nat.reduceLeDiff, reduceCtorEq, ↓reduceIte, Int.reduceLT, Int.reduceLE, Int.reduceEq, Int.reduceNe]
        refine ⟨fun hlt => ?_, fun hge => ?_⟩
        · have hb : b < n := by omega
          have hrb := hQ.at' (b := b) (by omega)
          obtain ⟨kb, hcb, hAb, _⟩ := hWg2.at' (i := b) (by omega) (by omega)
          have m1 : mat G a b = G[a][b] := mat_at (by omega) (by omega)
          have m2 : mat Q b a = Q[b][a] := mat_at (by omega) (by omega)
          have m3 : mat Q st a = Q[st][a] := mat_at (by omega) (by omega)
          have cba : ∀ Γ : Ctx, gW2 ∈ Γ → Cells Γ kb a [.bool Q[b][a]] := fun Γ h => hAb.bool (by omega) h
          have csa : ∀ Γ : Ctx, gW2 ∈ Γ → Cells Γ ks a [.bool Q[st][a]] := fun Γ h => hAs.bool (by omega) h
          rw [hste]
          refine s_idx rfl (by omega) (by omega) ?_
          simp -implicitDefEqProofs only [go_sem, Nat.reduceBEq, Nat.reduceAdd, Nat.reduceSub, Nat.reduceMul, Nat.reduceLeDiff, reduceCtorEq, ↓reduceIte, Int.reduceLT, Int.reduceLE, Int.reduceEq, Int.reduceNe]
          refine s_ld0 (hca _ (by simp)) (by simp) (by simp) ?_
          simp -implicitDefEqProofs only [go_sem, Nat.reduceBEq, Nat.reduceAdd, Nat.reduceSub, Nat.reduceMul, Nat.reduceLeDiff, reduceCtorEq, ↓reduceIte, Int.reduceLT, Int.reduceLE, Int.reduceEq, Int.reduceNe]
          refine s_idx rfl (by omega) (by omega) ?_
          simp -implicitDefEqProofs only [go_sem, Nat.reduceBEq, Nat.reduceAdd, Nat.reduceSub, Nat.reduceMul, Nat.reduceLeDiff, reduceCtorEq, ↓reduceIte, Int.reduceLT, Int.reduceLE, Int.reduceEq, Int.reduceNe]
          refine s_ld0 (hAa.bool (i := b) (by omega) (by simp)) (by simp) (by simp) ?_
          simp -implicitDefEqProofs only [go_sem, Nat.reduceBEq, Nat.reduceAdd, Nat.reduceSub, Nat.reduceMul, Nat.reduceLeDiff, reduceCtorEq, ↓reduceIte, Int.reduceLT, Int.reduceLE, Int.reduceEq, Int.reduceNe]
          refine s_idxg (fun he => ⟨by first | exact he | rfl | simp_all, by first | exact he | rfl | simp_all, rfl, by omega, by omega⟩) ?_
          simp -implicitDefEqProofs only [go_sem, Nat.reduceBEq, Nat.reduceAdd, Nat.reduceSub, Nat.reduceMul, Nat.reduceLeDiff, reduceCtorEq, ↓reduceIte, Int.reduceLT, Int.reduceLE, Int.reduceEq, Int.reduceNe]
          refine s_ldg0 (fun he => by first | exact he | rfl | simp_all) (fun _ => hcb _ (by simp)) (by simp) (by simp) ?_
          simp -implicitDefEqProofs only [go_sem, Nat.reduceBEq, Nat.reduceAdd, Nat.reduceSub, Nat.reduceMul, Nat.reduceLeDiff, reduceCtorEq, ↓reduceIte, Int.reduceLT, Int.reduceLE, Int.reduceEq, Int.reduceNe]
          refine s_idxg (fun he => ⟨by first | exact he | rfl | simp_all, by first | exact he | rfl | simp_all, rfl, by omega, by omega⟩) ?_
          simp -implicitDefEqProofs only [go_sem, Nat.reduceBEq, Nat.reduceAdd, Nat.reduceSub, Nat.reduceMul, Nat.reduceLeDiff, reduceCtorEq, ↓reduceIte, Int.reduceLT, Int.reduceLE, Int.reduceEq, Int.reduceNe]
          refine s_ldg0 (fun he => by first | exact he | rfl | simp_all) (fun _ => cba _ (by simp)) (by simp) (by simp) ?_
          simp -implicitDefEqProofs only [go_sem, Nat.reduceBEq, Nat.reduceAdd, Nat.reduceSub, Nat.reduceMul, Nat.reduceLeDiff, reduceCtorEq, ↓reduceIte, Int.reduceLT, Int.reduceLE, Int.reduceEq, Int.reduceNe]
          refine ⟨by intros; simp_all, ?_⟩
          refine s_idxg (fun he => ⟨by first | exact he | rfl | simp_all, by first | exact he | rfl | simp_all, rfl, by omega, by omega⟩) ?_
          simp -implicitDefEqProofs only [go_sem, Nat.reduceBEq, Nat.reduceAdd, Nat.reduceSub, Nat.reduceMul, Nat.reduceLeDiff, reduceCtorEq, ↓reduceIte, Int.reduceLT, Int.reduceLE, Int.reduceEq, Int.reduceNe]
          refine s_ldg0 (fun he => by first | exact he | rfl | simp_all) (fun _ => hcs _ (by simp)) (by simp) (by simp) ?_
          simp -implicitDefEqProofs only [go_sem, Nat.reduceBEq, Nat.reduceAdd, Nat.reduceSub, Nat.reduceMul, Nat.reduceLeDiff, reduceCtorEq, ↓reduceIte, Int.reduceLT, Int.reduceLE, Int.reduceEq, Int.reduceNe]
          refine s_idxg (fun he => ⟨by first | exact he | rfl | simp_all, by first | exact he | rfl | simp_all, rfl, by omega, by omega⟩) ?_
          simp -implicitDefEqProofs only [go_sem, Nat.reduceBEq, Nat.reduceAdd, Nat.reduceSub, Nat.reduceMul, Nat.reduceLeDiff, reduceCtorEq, ↓reduceIte, Int.reduceLT, Int.reduceLE, Int.reduceEq, Int.reduceNe]
          refine s_ldg0 (fun he => by first | exact he | rfl | simp_all) (fun _ => csa _ (by simp)) (by simp) (by simp) ?_
          simp -implicitDefEqProofs only [go_sem, Nat.reduceBEq, Nat.reduceAdd, Nat.reduceSub, Nat.reduceMul, Nat.reduceLeDiff, reduceCtorEq, ↓reduceIte, Int.reduceLT, Int.reduceLE, Int.reduceEq, Int.reduceNe]
          have hste' : g.st.toNat = st := by omega
          refine ⟨by intros; simp_all, fun hyes => ?_, fun hnot => ?_⟩
          · refine Up.to [] (Ent.nil _) ?_
            subst hR
            refine ⟨rfl, true, rfl, ⟨fun _ => hend.1 ⟨a, b, ha, hb, ?_⟩, fun _ => rfl⟩⟩
            unfold EndM
            rw [hste', m1, m2, m3]
            exact ⟨hyes.1.1, hyes.1.2.imp (fun q => by omega) id, hyes.2.imp (fun q => by omega) id⟩
          · simp (disch := omega) only [wrap_id]
            refine ⟨f2 - 1, by omega, Up.here ⟨rfl, b + 1, rfl, by omega, fun b' hb' => ?_⟩⟩
            by_cases e : b' = b
            · subst e
              unfold EndM
              rw [hste', m1, m2, m3]
              rintro ⟨q1, q2, q3⟩
              rcases hnot with (h | ⟨h1, h2⟩) | ⟨h1, h2⟩
              · rw [q1] at h; cases h
              · rcases q2 with q | q
                · omega
                · rw [q] at h2; cases h2
              · rcases q3 with q | q
                · omega
                · rw [q] at h2; cases h2
            · exact hno2 b' (by omega)
        · have hb : b = n := by omega
          subst hb
          simp (disch := omega) only [wrap_id]
          refine ⟨f - 1, by omega, Up.here ⟨rfl, a + 1, rfl, by omega, fun a' b' h1 h2 => ?_⟩⟩
          by_cases e : a' = a
          · subst e; exact hno2 b' h2
          · exact hno a' b' (by omega) h2
      · have ha : a = n := by omega
        subst ha
        refine Up.to [] (Ent.nil _) ?_
        subst hR
        refine ⟨rfl, false, rfl, ⟨fun h => Bool.noConfusion h, fun h => ?_⟩⟩
        obtain ⟨a', b', h1, h2, h3⟩ := hend.2 h
        exact absurd h3 (hno a' b' h1 h2)
end Go.Proofs.Ytniobbepliknmaa.V
/- The text of parlance/lens.Greatest as a statement (slots: 0 g, 1 g, 4 e, 5 long, 6 a, 7 step); no condition. -/
namespace Go.Proofs.Ytniobbepliknmaa.V
open Go
def S54_1 : Stmt :=
  Stmt.seq
  (Stmt.region [SOper.mk (some 19) none (SOp.ibin BinOp.lss (Operand.tmp 18) (Operand.tmp 17))] [1, 5, 17, 18, 19])
  (Stmt.seq (Stmt.cond (Operand.tmp 19) Stmt.skip (Stmt.exit 0))
    (Stmt.seq
      (Stmt.block 1
        (Stmt.seq
          (Stmt.region
            [SOper.mk (some 20) none (SOp.mv (Operand.tmp 18)), SOper.mk (some 6) none (SOp.mv (Operand.tmp 20))]
            [1, 5, 6, 17, 18])
          (Stmt.region
            [SOper.mk (some 21) none (SOp.load false 1 (Operand.tmp 5)),
              SOper.mk (some 22) none (SOp.mv (Operand.tmp 6)),
              SOper.mk (some 23) none (SOp.idx 1 (Operand.tmp 21) (Operand.tmp 22)),
              SOper.mk none none (SOp.store 1 (Operand.tmp 23) (Operand.const (Value.int IntKind.i64 (-1))))]
            [1, 5, 17, 18])))
      (Stmt.region
        [SOper.mk (some 24) none (SOp.ibin BinOp.add (Operand.tmp 18) (Operand.const (Value.int IntKind.i64 1))),
          SOper.mk (some 18) none (SOp.mv (Operand.tmp 24))]
        [1, 5, 17, 18])))
def S54_2 : Stmt :=
  Stmt.seq
  (Stmt.seq
    (Stmt.region
      [SOper.mk (some 26) none (SOp.mv (Operand.tmp 7)),
        SOper.mk (some 27) none (SOp.call (Operand.tmp 26) [Operand.const (Value.int IntKind.i64 1)])]
      [1, 5, 7, 27])
    (Stmt.cond (Operand.tmp 27) Stmt.skip (Stmt.exit 2)))
  (Stmt.block 3 Stmt.skip)
def S54_3 : Stmt :=
  Stmt.seq
  (Stmt.region [SOper.mk (some 35) none (SOp.ibin BinOp.lss (Operand.tmp 34) (Operand.tmp 33))] [1, 5, 7, 33, 34, 35])
  (Stmt.seq (Stmt.cond (Operand.tmp 35) Stmt.skip (Stmt.exit 4))
    (Stmt.seq
      (Stmt.block 5
        (Stmt.region
          [SOper.mk (some 36) none (SOp.mv (Operand.tmp 7)),
            SOper.mk (some 37) none (SOp.call (Operand.tmp 36) [Operand.const (Value.int IntKind.i64 1099511627776)])]
          [1, 5, 7, 33, 34]))
      (Stmt.region
        [SOper.mk (some 38) none (SOp.ibin BinOp.add (Operand.tmp 34) (Operand.const (Value.int IntKind.i64 1))),
          SOper.mk (some 34) none (SOp.mv (Operand.tmp 38))]
        [1, 5, 7, 33, 34])))
def S54_0 : Stmt :=
  Stmt.seq
  (Stmt.region
    [SOper.mk (some 1) none (SOp.box false 57 (Operand.tmp 0)),
      SOper.mk (some 2) none (SOp.mv (Operand.const (Value.int IntKind.i64 0))),
      SOper.mk (some 3) none (SOp.mv (Operand.const (Value.int IntKind.i64 0)))]
    [1])
  (Stmt.seq
    (Stmt.seq
      (Stmt.region
        [SOper.mk (some 8) none (SOp.load true 4 (Operand.tmp 1)),
          SOper.mk (some 9) none (SOp.call (Operand.func 112) [Operand.tmp 8]),
          SOper.mk (some 4) none (SOp.mv (Operand.tmp 9))]
        [1, 4])
      (Stmt.seq
        (Stmt.region
          [SOper.mk (some 10) none (SOp.mv (Operand.tmp 4)),
            SOper.mk (some 11) none (SOp.ibin BinOp.neq (Operand.tmp 10) (Operand.const (Value.int IntKind.i64 0)))]
          [1, 4, 11])
        (Stmt.cond (Operand.tmp 11)
          (Stmt.seq
            (Stmt.region
              [SOper.mk (some 12) none (SOp.mv (Operand.tmp 4)),
                SOper.mk (some 2) none (SOp.mv (Operand.const (Value.int IntKind.i64 0))),
                SOper.mk (some 3) none (SOp.mv (Operand.tmp 12))]
              [2, 3])
            Stmt.ret)
          Stmt.skip)))
    (Stmt.seq
      (Stmt.region
        [SOper.mk (some 13) none (SOp.fld 1 (Operand.tmp 1)),
          SOper.mk (some 14) none (SOp.load false 1 (Operand.tmp 13)),
          SOper.mk (some 15) none (SOp.mk 3 1 8 (Value.int IntKind.i64 0) (Operand.tmp 14) (Operand.tmp 14)),
          SOper.mk (some 5) none (SOp.alloc false 29 (Value.slice none 0 0)),
          SOper.mk none none (SOp.store 1 (Operand.tmp 5) (Operand.tmp 15))]
        [1, 5])
      (Stmt.seq
        (Stmt.seq
          (Stmt.region
            [SOper.mk (some 16) none (SOp.load false 1 (Operand.tmp 5)),
              SOper.mk (some 17) none (SOp.len false (Operand.tmp 16)),
              SOper.mk (some 18) none (SOp.mv (Operand.const (Value.int IntKind.i64 0)))]
            [1, 5, 17, 18])
          (Stmt.block 0 (Stmt.loop S54_1 [18] [1, 5, 17])))
        (Stmt.seq
          (Stmt.region
            [SOper.mk (some 25) none (SOp.mkFunc 121 [Operand.tmp 1, Operand.tmp 5]),
              SOper.mk (some 7) none (SOp.mv (Operand.tmp 25))]
            [1, 5, 7])
          (Stmt.seq (Stmt.block 2 (Stmt.loop S54_2 [] [1, 5, 7]))
            (Stmt.seq
              (Stmt.seq
                (Stmt.region
                  [SOper.mk (some 28) none (SOp.load true 4 (Operand.tmp 1)),
                    SOper.mk (some 29) none (SOp.load false 1 (Operand.tmp 5)),
                    SOper.mk (some 30) none (SOp.call (Operand.func 123) [Operand.tmp 28, Operand.tmp 29])]
                  [1, 5, 7, 30])
                (Stmt.cond (Operand.tmp 30)
                  (Stmt.seq
                    (Stmt.region
                      [SOper.mk (some 2) none (SOp.mv (Operand.const (Value.int IntKind.i64 (-2)))),
                        SOper.mk (some 3) none (SOp.mv (Operand.const (Value.int IntKind.i64 0)))]
                      [2, 3])
                    Stmt.ret)
                  Stmt.skip))
              (Stmt.seq
                (Stmt.seq
                  (Stmt.region
                    [SOper.mk (some 31) none (SOp.fld 1 (Operand.tmp 1)),
                      SOper.mk (some 32) none (SOp.load false 1 (Operand.tmp 31)),
                      SOper.mk (some 33) none
                        (SOp.ibin BinOp.add (Operand.tmp 32) (Operand.const (Value.int IntKind.i64 1))),
                      SOper.mk (some 34) none (SOp.mv (Operand.const (Value.int IntKind.i64 0)))]
                    [1, 5, 7, 33, 34])
                  (Stmt.block 4 (Stmt.loop S54_3 [34] [1, 5, 7, 33])))
                (Stmt.seq
                  (Stmt.region
                    [SOper.mk (some 39) none (SOp.load false 1 (Operand.tmp 5)),
                      SOper.mk (some 40) none (SOp.fld 2 (Operand.tmp 1)),
                      SOper.mk (some 41) none (SOp.load false 1 (Operand.tmp 40)),
                      SOper.mk (some 42) none (SOp.idx 1 (Operand.tmp 39) (Operand.tmp 41)),
                      SOper.mk (some 43) none (SOp.load false 1 (Operand.tmp 42)),
                      SOper.mk (some 2) none (SOp.mv (Operand.tmp 43)),
                      SOper.mk (some 3) none (SOp.mv (Operand.const (Value.int IntKind.i64 0)))]
                    [2, 3])
                  Stmt.ret))))))))
def S54 : FnS := ⟨44, [(2, none), (3, none)], S54_0⟩
theorem tr54 : trFn Try.prog 54 [] [[1], [1, 4], [1, 4, 11], [2, 3], [1, 5], [1, 5, 17, 18], [18], [1, 5, 17], [1, 5, 17, 18, 19], [1, 5, 6, 17, 18], [1, 5, 17, 18], [1, 5, 17, 18], [1, 5, 7], [], [1, 5, 7], [1, 5, 7, 27], [1, 5, 7, 30], [2, 3], [1, 5, 7, 33, 34], [34], [1, 5, 7, 33], [1, 5, 7, 33, 34, 35], [1, 5, 7, 33, 34], [1, 5, 7, 33, 34], [2, 3]] = some S54 := by kernel_rfl
end Go.Proofs.Ytniobbepliknmaa.V
/- The longest word: lens.Greatest walked; no condition. -/
namespace Go.Proofs.Ytniobbepliknmaa.V
open Go
set_option linter.unusedVariables false
set_option linter.unusedSimpArgs false
attribute [local go_sem] e_seq e_region e_quiet e_join e_loop e_cond e_block e_exit e_ret e_skip e_fin e_kseq e_snrm e_sret e_sex e_bnrm e_bret e_bex e_rnrm e_rret e_res e_condC e_nil e_g e_mv g_mv e_pick g_pick pickC_eq e_ibin g_ibin ibinC_eq e_sbin g_sbin e_beq g_beq beqC_eq e_nilq g_nilq nilqC_sl nilqC_pt nilqC_mp e_un g_un unC_not unC_neg e_conv g_conv convC_eq e_fld g_fld fldC_ref fldC_ptr e_nilCheck g_nilCheck nilCheckC_ref nilCheckC_ptr nilCheckC_fun e_field g_field fieldC_eq e_len g_len lenC_sl lenC_str e_extract g_extract extractC_eq e_mkFunc e_build g_build e_idiv g_idiv idivC_eq e_ishift g_ishift ishiftC_eq e_idx g_idx e_idxA g_idxA e_load g_load loadC_ref loadC_ptr loadB_eq e_slc g_slc e_box boxC_loc boxC_esc e_alloc allocC_loc allocC_esc e_buildS e_store storeC_ref storeC_ptr storeB_eq e_append e_appz e_mk mkC_eq e_call callC_eq e_fn g_fn fnC_eq fnV_min' fnV_max' fnV_rune' e_q g_q e_a e_n g_call g_box g_alloc g_buildS g_store g_append g_mk g_a g_n g_dead e_dead e_callK e_drawn e_tree e_finJ e_tk e_tfin e_tno e_nbt_q e_nbt_qn e_nbt_a e_nbt_an e_nbt_fin e_early_nil e_early_t e_early_f e_nob_nil e_nob_none e_nob_some isBox_dead isBox_v isBox_ref e_dnil e_dk e_ek e_finB vcOps_vc1 e_dcons e_tq e_ekt e_tearly e_talt e_dearly look_nil look_c proj_nil proj_c looks_nil looks_c zip_nil zip_c val_tmp val_const val_func slv_v slv_box slv_ref slot_tmp slot_const slot_func slotL_v slotL_box slotL_ref put_some put_none updBox_c boxSet_box gd_eq slotVals_nil slotVals_c slotVals_b boxV_box boxOn_box slotsOn_nil slotsOn_c slotsOn_b resV_one resV_two vals_nil vals_c allOn_nil allOn_c partOn_nil partOn_c partVals_nil partVals_c fits_nil fits_c fillL_nil fillL_c mkv_one mkv_agg cellsV_agg cellsV_int cellsV_bool cellsV_slice cellsV_string cellsV_pointer cellsV_func cellsV_nilf cellsV_map one'_nil one'_c oc_int oc_bool oc_slice oc_string oc_pointer oc_func oc_nilf oc_map setC_eq iv_add iv_sub iv_mul iv_eql iv_neq iv_lss iv_leq iv_gtr iv_geq iok_add iok_sub iok_mul iok_eql iok_neq iok_lss iok_leq iok_gtr iok_geq pickV_bool args0_nil args0_c bnd_none bnd_some imp_bt imp_bf imp_ebt imp_ebf imp_eb1 imp_np imp_pp beq_tt beq_tf beq_ft beq_ff cond_or cond_and e_round e_meet Int.le_refl Int.toNat_zero decide_true decide_false Bool.or_false Bool.false_or Bool.true_or Bool.or_true Bool.and_false Bool.false_and Bool.bne_false Bool.bne_true beq_iff_eq Int.cast_ofNat_Int not_false_eq_true not_true_eq_false false_and and_false false_implies true_implies true_and and_true Bool.true_and Bool.and_true Bool.not_true Bool.not_false forall_const implies_true List.take_zero List.drop_zero List.take_succ_cons List.drop_succ_cons List.take_nil List.drop_nil List.length_cons List.length_nil List.nil_append List.append_nil List.cons_append Int.toNat_natCast decide_eq_true_eq decide_eq_false_iff_not cond_true cond_false and_self List.getElem?_cons_zero List.getElem?_cons_succ List.set_cons_zero List.set_cons_succ Option.some.injEq exists_eq_left' Nat.zero_add Nat.add_zero Nat.mul_one imp_self true_or or_true or_false false_or Bool.or_eq_true Bool.or_eq_false_iff Bool.and_eq_true Bool.and_eq_false_iff Bool.not_eq_true' Bool.not_eq_false'

/-- the first k numbers are -1 -/
def negs (n k : Nat) : List Int := List.replicate k (-1) ++ List.replicate (n - k) 0
theorem negs_set {n k : Nat} (h : k < n) : (negs n k).set k (-1) = negs n (k + 1) := by
  unfold negs
  obtain ⟨d, hd⟩ : ∃ d, n - k = d + 1 := ⟨n - k - 1, by omega⟩
  rw [hd, show n - (k + 1) = d by omega, List.replicate_succ, List.set_append_right _ _ (by simp), List.replicate_succ']
  simp
theorem negs_len {n k : Nat} (h : k ≤ n) : (negs n k).length = n := by simp [negs]; omega
theorem few_negs (n : Nat) : Few (List.replicate n (-1)) := fun x hx => by rw [List.eq_of_mem_replicate hx]; omega
theorem sum_negs : ∀ n : Nat, (List.replicate n (-1 : Int)).sum = -n
  | 0 => rfl
  | n + 1 => by rw [List.replicate_succ, List.sum_cons, sum_negs n]; omega
/-- where the numbers and the grammar lie -/
def GH (n pl pg bA : Nat) (g : Gr) (A : Option Addr) (c : Nat) (L : List Int) (Γ : Ctx) : Prop := ∃ hl ga hg, Γ = [ga, hl, hg] ∧ hl pl = some (.cells [.slice (some ⟨bA, 0, none⟩) n n].toArray 29 (0, 0)) ∧ Arr ga bA 3 L ∧
  hg pg = some (.cells [.int .i64 g.ts, .int .i64 n, .int .i64 g.st, .slice A g.rs.length c].toArray 57 (0, 0))
theorem call_step {Γr : Ctx} {n pl pg bA : Nat} {g : Gr} {A : Option Addr} {c : Nat} (hx : SlOk (lk Γr) A c g.rs) (V : VG g) (hn : g.ns = n) {L : List Int} {Γ : Ctx} {k : Value → Ctx → Prop} (h : GH n pl pg bA g A c L Γ) (hl : L.length = n) (hb : Few L) (most : Int) (h0 : 0 ≤ most) (hm : most ≤ 1099511627776)
    (hk : ∀ Γ', GH n pl pg bA g A c (roundR most g.rs L) Γ' → Few (roundR most g.rs L) → k (.bool (anyC most g.rs L)) Γ') :
    CallVC Try.prog Γr 121 [.int .i64 most, .pointer (some ⟨pg, 0, none⟩), .pointer (some ⟨pl, 0, none⟩)] Γ k := by
  obtain ⟨hl', ga, hg, rfl, h1, h2, h3⟩ := h
  refine CallVC.perm (Γm := [ga]) (Γf := [hl', hg]) (lens_step (Γr := [hl', hg] ++ Γr) (hx.mono (lk_r _ _)) V (pg := pg) (pl := pl) ⟨hg, by simp, by rw [hn]; exact h3⟩ ⟨hl', by simp, h1⟩ h2 (by omega) hl.symm hb most h0 hm) (List.Perm.refl _) (List.Sublist.refl _) ?_
  rintro v Γ' ⟨gl, rfl, rfl, h4, h5⟩
  exact hk _ ⟨_, _, _, rfl, h1, h4, h3⟩ h5
theorem lens_greatest {Γr : Ctx} {g : Gr} {A : Option Addr} {c : Nat} (hx : SlOk (lk Γr) A c g.rs) :
    Ret Try.prog 54 [.agg #[.int .i64 g.ts, .int .i64 g.ns, .int .i64 g.st, .slice A g.rs.length c]] Γr [] (fun v Γ => Γ = [] ∧ ∃ x e, v = .tuple #[.int .i64 x, .int .i64 e] ∧ ((ckF g ≠ 0 ∧ e = ckF g ∧ x = 0) ∨ (ckF g = 0 ∧ e = 0 ∧ GrtR g x))) := by
  generalize hR : (fun (v : Value) (Γ : Ctx) => Γ = [] ∧ ∃ x e, _) = R
  refine ret_of_vc tr54 (Nat.le_of_ble_eq_true rfl) ?_
  simp -implicitDefEqProofs only [S54, S54_0, go_sem, Nat.reduceBEq, Nat.reduceAdd, Nat.reduceSub, Nat.reduceMul, Nat.reduceLeDiff, reduceCtorEq, ↓reduceIte, Int.reduceLT, Int.reduceLE, Int.reduceEq, Int.reduceNe]
  intro pg
  refine s_ld0 cells_one (by simp) (by simp) ?_
  simp -implicitDefEqProofs only [go_sem, Nat.reduceBEq, Nat.reduceAdd, Nat.reduceSub, Nat.reduceMul, Nat.reduceLeDiff, reduceCtorEq, ↓reduceIte, Int.reduceLT, Int.reduceLE, Int.reduceEq, Int.reduceNe]
  refine CallVC.read (gram_check (hx.mono (lk_r _ _))) ?_
  rintro v Γ' ⟨rfl, rfl⟩
  simp -implicitDefEqProofs only [go_sem, Nat.reduceBEq, Nat.reduceAdd, Nat.reduceSub, Nat.reduceMul, Nat.reduceLeDiff, reduceCtorEq, ↓reduceIte, Int.reduceLT, Int.reduceLE, Int.reduceEq, Int.reduceNe]
  refine ⟨fun h => Up.to [] (Ent.nil _) ?_, fun h0 => ?_⟩
  · subst hR
    exact ⟨rfl, _, _, rfl, .inl ⟨h, rfl, rfl⟩⟩
  have V := ckF_ok h0
  have hns := V.ns
  have hst := V.st
  obtain ⟨n, hn⟩ : ∃ n : Nat, g.ns = n := ⟨g.ns.toNat, by omega⟩
  have hn10 : n ≤ 10 := by omega
  have hnn : g.ns.toNat = n := by omega
  refine s_ld (j := 1) cells_one (by simp) (by simp) ?_
  simp -implicitDefEqProofs only [go_sem, Nat.reduceBEq, Nat.reduceAdd, Nat.reduceSub, Nat.reduceMul, Nat.reduceLeDiff, reduceCtorEq, ↓reduceIte, Int.reduceLT, Int.reduceLE, Int.reduceEq, Int.reduceNe]
  rw [hn]
  refine ⟨by omega, by omega, fun bA pl => ?_⟩
  refine s_storeV (ix := 0) rfl (one_self _ _) rfl rfl ?_
  simp -implicitDefEqProofs only [go_sem, Nat.reduceBEq, Nat.reduceAdd, Nat.reduceSub, Nat.reduceMul, Nat.reduceLeDiff, reduceCtorEq, ↓reduceIte, Int.reduceLT, Int.reduceLE, Int.reduceEq, Int.reduceNe]
  have hz : Arr (one bA (Obj.cells (zerosL [Value.int IntKind.i64 0] n).toArray 3)) bA 3 (negs n 0) := by
    have := Arr.made (0 : Int) bA 3 n
    rw [show negs n 0 = List.replicate n 0 by simp [negs]]
    exact this
  have hpl : upd (one pl (Obj.cells #[Value.slice none 0 0] 29)) pl (Obj.cells #[Value.slice (some { block := bA, off := 0 }) n n] 29) pl = some (Obj.cells [Value.slice (some { block := bA, off := 0 }) n n].toArray 29) := upd_self _ _ _
  refine s_ld0 (cells_lk ⟨_, by simp, hpl⟩) (by simp) (by simp) ?_
  simp -implicitDefEqProofs only [go_sem, Nat.reduceBEq, Nat.reduceAdd, Nat.reduceSub, Nat.reduceMul, Nat.reduceLeDiff, reduceCtorEq, ↓reduceIte, Int.reduceLT, Int.reduceLE, Int.reduceEq, Int.reduceNe]
  refine s_loop (fun f vs Γ => ∃ k : Nat, vs = [.v true (.int .i64 k)] ∧ k + f = n ∧ GH n pl pg bA g A c (negs n k) Γ) n
    (Up.to _ (Ent.perm (List.Perm.swap _ _ _)) ⟨0, rfl, by omega, _, _, _, rfl, hpl, hz, one_self _ _⟩) ?_
  rintro f vs Γ ⟨k, rfl, hkf, hl, ga, hg, rfl, h1, h2, h3⟩
  simp -implicitDefEqProofs only [S54_1, go_sem, Nat.reduceBEq, Nat.reduceAdd, Nat.reduceSub, Nat.reduceMul, Nat.reduceLeDiff, reduceCtorEq, ↓reduceIte, Int.reduceLT, Int.reduceLE, Int.reduceEq, Int.reduceNe]
  refine ⟨fun hlt => ?_, fun hge => ?_⟩
  · have hk : k < n := by omega
    have hkl := negs_len (n := n) (k := k) (by omega)
    refine s_ld0 (cells_lk ⟨hl, by simp, h1⟩) (by simp) (by simp) ?_
    simp -implicitDefEqProofs only [go_sem, Nat.reduceBEq, Nat.reduceAdd, Nat.reduceSub, Nat.reduceMul, Nat.reduceLeDiff, reduceCtorEq, ↓reduceIte, Int.reduceLT, Int.reduceLE, Int.reduceEq, Int.reduceNe]
    refine s_idx rfl (by omega) (by omega) ?_
    simp -implicitDefEqProofs only [go_sem, Nat.reduceBEq, Nat.reduceAdd, Nat.reduceSub, Nat.reduceMul, Nat.reduceLeDiff, reduceCtorEq, ↓reduceIte, Int.reduceLT, Int.reduceLE, Int.reduceEq, Int.reduceNe]
    refine s_storeA (ix := 0) (α := Int) (-1) rfl h2 (i := k) (by omega) ?_
    intro g' hA' _
    rw [negs_set hk] at hA'
    simp -implicitDefEqProofs only [go_sem, Nat.reduceBEq, Nat.reduceAdd, Nat.reduceSub, Nat.reduceMul, Nat.reduceLeDiff, reduceCtorEq, ↓reduceIte, Int.reduceLT, Int.reduceLE, Int.reduceEq, Int.reduceNe]
    simp (disch := omega) only [wrap_id]
    exact ⟨f - 1, by omega, Up.here ⟨k + 1, rfl, by omega, _, _, _, rfl, h1, hA', h3⟩⟩
  have hk : k = n := by omega
  have h2 : Arr ga bA 3 (List.replicate n (-1)) := by rw [hk] at h2; simpa [negs] using h2
  refine s_loop (fun f vs Γ => vs = [] ∧ ∃ L : List Int, (f : Int) = n - L.sum ∧ GH n pl pg bA g A c L Γ ∧ L.length = n ∧ Few L ∧ (∀ x ∈ L, x ≤ 1) ∧ SndG g L) (2 * n)
    (Up.here ⟨rfl, _, by rw [sum_negs]; omega, ⟨_, _, _, rfl, h1, h2, h3⟩, by simp, few_negs n, fun x hx => by rw [List.eq_of_mem_replicate hx]; omega, snd_init g n⟩) ?_
  rintro f vs Γ ⟨rfl, L, hf, hH, hLl, hF, hL1, hS⟩
  simp -implicitDefEqProofs only [S54_2, go_sem, Nat.reduceBEq, Nat.reduceAdd, Nat.reduceSub, Nat.reduceMul, Nat.reduceLeDiff, reduceCtorEq, ↓reduceIte, Int.reduceLT, Int.reduceLE, Int.reduceEq, Int.reduceNe]
  refine call_step hx V hn hH hLl hF 1 (by omega) (by omega) ?_
  intro Γ' hH' hF'
  simp -implicitDefEqProofs only [go_sem, Nat.reduceBEq, Nat.reduceAdd, Nat.reduceSub, Nat.reduceMul, Nat.reduceLeDiff, reduceCtorEq, ↓reduceIte, Int.reduceLT, Int.reduceLE, Int.reduceEq, Int.reduceNe]
  have hLr : L.length = g.ns.toNat := by omega
  refine ⟨fun hag => ?_, fun hag => ?_⟩
  · have hs := round_sum V hLr hag
    have ht := round_top (most := 1) (N := 1) (by omega) g.rs hL1
    have htop := sum_top ht
    have hlen := roundR_len 1 g.rs L
    exact ⟨((n : Int) - (roundR 1 g.rs L).sum).toNat, by omega, Up.here ⟨_, by omega, hH', by omega, hF', ht, snd_round V (by omega) g.rs (fun r q => q) hLr hS⟩⟩
  obtain ⟨hsame, hcl⟩ := anyC_no hag
  rw [hsame] at hH' hF'
  have hC : Clo g L := hcl
  obtain ⟨hl, ga, hg, rfl, h1, h2, h3⟩ := id hH'
  refine s_ld0 (cells_lk ⟨hg, by simp, h3⟩) (by simp) (by simp) ?_
  simp -implicitDefEqProofs only [go_sem, Nat.reduceBEq, Nat.reduceAdd, Nat.reduceSub, Nat.reduceMul, Nat.reduceLeDiff, reduceCtorEq, ↓reduceIte, Int.reduceLT, Int.reduceLE, Int.reduceEq, Int.reduceNe]
  refine s_ld0 (cells_lk ⟨hl, by simp, h1⟩) (by simp) (by simp) ?_
  simp -implicitDefEqProofs only [go_sem, Nat.reduceBEq, Nat.reduceAdd, Nat.reduceSub, Nat.reduceMul, Nat.reduceLeDiff, reduceCtorEq, ↓reduceIte, Int.reduceLT, Int.reduceLE, Int.reduceEq, Int.reduceNe]
  have hsl : SlOk (lk ([ga, hl, hg] ++ Γr)) (some ⟨bA, 0, none⟩) L.length L := h2.slok (lk_sub (by simp)) (Nat.le_refl _) (by unfold maxLen; omega) (by omega)
  have hce := lens_endless (Γr := [ga, hl, hg] ++ Γr) (hx.mono (lk_r _ _)) V hsl hLr hF'
  rw [hn, hLl] at hce
  refine CallVC.read hce ?_
  rintro v Γ' ⟨rfl, e, rfl, he⟩
  have hE : e = true ↔ Endl g := he.trans (by rw [← hLl, hLr]; exact end_iff V hLr hS hC)
  simp -implicitDefEqProofs only [go_sem, Nat.reduceBEq, Nat.reduceAdd, Nat.reduceSub, Nat.reduceMul, Nat.reduceLeDiff, reduceCtorEq, ↓reduceIte, Int.reduceLT, Int.reduceLE, Int.reduceEq, Int.reduceNe]
  refine ⟨fun h => Up.to [] (Ent.nil _) ?_, fun h => ?_⟩
  · subst hR
    exact ⟨rfl, _, _, rfl, .inr ⟨h0, rfl, .inl ⟨hE.1 h, rfl⟩⟩⟩
  have hnE : ¬ Endl g := fun q => by rw [hE.2 q] at h; cases h
  refine s_ld (j := 1) (cells_lk ⟨hg, by simp, h3⟩) (by simp) (by simp) ?_
  simp -implicitDefEqProofs only [go_sem, Nat.reduceBEq, Nat.reduceAdd, Nat.reduceSub, Nat.reduceMul, Nat.reduceLeDiff, reduceCtorEq, ↓reduceIte, Int.reduceLT, Int.reduceLE, Int.reduceEq, Int.reduceNe]
  simp (disch := omega) only [wrap_id]
  refine s_loop (fun f vs Γ => ∃ k : Nat, vs = [.v true (.int .i64 k)] ∧ k + f = n + 1 ∧ GH n pl pg bA g A c (rounds 1099511627776 g.rs k L) Γ ∧ Few (rounds 1099511627776 g.rs k L)) (n + 1)
    (Up.here ⟨0, rfl, by omega, ⟨_, _, _, rfl, h1, h2, h3⟩, hF'⟩) ?_
  rintro f vs Γ ⟨k, rfl, hkf, hH2, hF2⟩
  have hlk := rounds_len 1099511627776 g.rs k L
  simp -implicitDefEqProofs only [S54_3, go_sem, Nat.reduceBEq, Nat.reduceAdd, Nat.reduceSub, Nat.reduceMul, Nat.reduceLeDiff, reduceCtorEq, ↓reduceIte, Int.reduceLT, Int.reduceLE, Int.reduceEq, Int.reduceNe]
  refine ⟨fun hlt => ?_, fun hge => ?_⟩
  · refine call_step hx V hn hH2 (by omega) hF2 1099511627776 (by omega) (by omega) ?_
    intro Γ' hH3 hF3
    simp -implicitDefEqProofs only [go_sem, Nat.reduceBEq, Nat.reduceAdd, Nat.reduceSub, Nat.reduceMul, Nat.reduceLeDiff, reduceCtorEq, ↓reduceIte, Int.reduceLT, Int.reduceLE, Int.reduceEq, Int.reduceNe]
    simp (disch := omega) only [wrap_id]
    exact ⟨f - 1, by omega, Up.here ⟨k + 1, rfl, by omega, hH3, hF3⟩⟩
  · have hk : k = n + 1 := by omega
    subst hk
    have hres := grt_no V (most := 1099511627776) (by omega) hLr hS hnE (x := _) rfl
    rw [hnn] at hres
    generalize rounds 1099511627776 g.rs (n + 1) L = Q at *
    obtain ⟨hl, ga, hg, rfl, h1, h2, h3⟩ := hH2
    obtain ⟨st, hste⟩ : ∃ m : Nat, g.st = m := ⟨g.st.toNat, by omega⟩
    have hsQ : st < Q.length := by omega
    have hcell : ∀ Γ : Ctx, ga ∈ Γ → Cells Γ bA st [.int .i64 Q[st]] := fun Γ h => h2.cell hsQ h
    refine s_ld0 (cells_lk ⟨hl, by simp, h1⟩) (by simp) (by simp) ?_
    simp -implicitDefEqProofs only [go_sem, Nat.reduceBEq, Nat.reduceAdd, Nat.reduceSub, Nat.reduceMul, Nat.reduceLeDiff, reduceCtorEq, ↓reduceIte, Int.reduceLT, Int.reduceLE, Int.reduceEq, Int.reduceNe]
    refine s_ld (j := 2) (cells_lk ⟨hg, by simp, h3⟩) (by simp) (by simp) ?_
    simp -implicitDefEqProofs only [go_sem, Nat.reduceBEq, Nat.reduceAdd, Nat.reduceSub, Nat.reduceMul, Nat.reduceLeDiff, reduceCtorEq, ↓reduceIte, Int.reduceLT, Int.reduceLE, Int.reduceEq, Int.reduceNe]
    rw [hste]
    refine s_idx rfl (by omega) (by omega) ?_
    simp -implicitDefEqProofs only [go_sem, Nat.reduceBEq, Nat.reduceAdd, Nat.reduceSub, Nat.reduceMul, Nat.reduceLeDiff, reduceCtorEq, ↓reduceIte, Int.reduceLT, Int.reduceLE, Int.reduceEq, Int.reduceNe]
    refine s_ld0 (hcell _ (by simp)) (by simp) (by simp) ?_
    simp -implicitDefEqProofs only [go_sem, Nat.reduceBEq, Nat.reduceAdd, Nat.reduceSub, Nat.reduceMul, Nat.reduceLeDiff, reduceCtorEq, ↓reduceIte, Int.reduceLT, Int.reduceLE, Int.reduceEq, Int.reduceNe]
    refine Up.to [] (Ent.nil _) ?_
    subst hR
    have e : lgt Q g.st = Q[st] := by rw [hste]; simp [lgt, hsQ]
    rw [e] at hres
    exact ⟨rfl, _, _, rfl, .inr ⟨h0, rfl, hres⟩⟩
end Go.Proofs.Ytniobbepliknmaa.V
/- The text of parlance/parlref5.lengthsOf as a statement (slots: 0 g, 1 n, 2 g, 3 n, 5 can, 6 seen, 7 all, 8 row, 9 add, 10 i, 11 x, 12 r, 13 _, 14 y, 15 q, 16 s, 17 k, 18 ok); no condition. -/
namespace Go.Proofs.Ytniobbepliknmaa.V
open Go
def S114_1 : Stmt :=
  Stmt.seq
  (Stmt.region [SOper.mk (some 30) none (SOp.ibin BinOp.lss (Operand.tmp 29) (Operand.tmp 28))]
    [2, 5, 7, 8, 9, 28, 29, 30])
  (Stmt.seq (Stmt.cond (Operand.tmp 30) Stmt.skip (Stmt.exit 0))
    (Stmt.seq
      (Stmt.block 1
        (Stmt.seq
          (Stmt.region
            [SOper.mk (some 31) none (SOp.mv (Operand.tmp 29)), SOper.mk (some 10) none (SOp.mv (Operand.tmp 31))]
            [2, 5, 7, 8, 9, 10, 28, 29])
          (Stmt.region
            [SOper.mk (some 32) none (SOp.mv (Operand.tmp 9)), SOper.mk (some 33) none (SOp.mv (Operand.tmp 10)),
              SOper.mk (some 34) none
                (SOp.build 223 [Value.int IntKind.i64 0, Value.int IntKind.i64 0, Value.int IntKind.i64 0]
                  [(0, 1, Operand.tmp 33), (1, 1, Operand.const (Value.int IntKind.i64 0)),
                    (2, 1, Operand.const (Value.int IntKind.i64 0))]),
              SOper.mk (some 35) none (SOp.call (Operand.tmp 32) [Operand.tmp 34])]
            [2, 5, 7, 8, 9, 28, 29])))
      (Stmt.region
        [SOper.mk (some 36) none (SOp.ibin BinOp.add (Operand.tmp 29) (Operand.const (Value.int IntKind.i64 1))),
          SOper.mk (some 29) none (SOp.mv (Operand.tmp 36))]
        [2, 5, 7, 8, 9, 28, 29])))
def S114_2 : Stmt :=
  Stmt.block 5
  (Stmt.seq
    (Stmt.region
      [SOper.mk (some 79) none (SOp.idx 3 (Operand.tmp 75) (Operand.tmp 77)),
        SOper.mk (some 80) none (SOp.load true 3 (Operand.tmp 79)),
        SOper.mk (some 14) none
          (SOp.alloc true 223
            (Value.agg (Array.mk [Value.int IntKind.i64 0, Value.int IntKind.i64 0, Value.int IntKind.i64 0]))),
        SOper.mk none none (SOp.store 3 (Operand.tmp 14) (Operand.tmp 80))]
      [2, 5, 7, 8, 9, 11, 12, 14, 75, 76, 77])
    (Stmt.seq
      (Stmt.region
        [SOper.mk (some 81) none (SOp.fld 3 (Operand.tmp 2)),
          SOper.mk (some 82) none (SOp.load false 1 (Operand.tmp 81)),
          SOper.mk (some 83) none (SOp.fld 0 (Operand.tmp 14)),
          SOper.mk (some 84) none (SOp.load false 1 (Operand.tmp 83)),
          SOper.mk (some 85) none (SOp.idx 2 (Operand.tmp 82) (Operand.tmp 84)),
          SOper.mk (some 86) none (SOp.fld 1 (Operand.tmp 85)),
          SOper.mk (some 87) none (SOp.load false 1 (Operand.tmp 86)),
          SOper.mk (some 15) none (SOp.mv (Operand.tmp 87))]
        [2, 5, 7, 8, 9, 11, 12, 14, 15, 75, 76, 77])
      (Stmt.seq
        (Stmt.quiet
          [SOper.mk (some 88) none (SOp.fld 1 (Operand.tmp 14)),
            SOper.mk (some 89) none (SOp.load false 1 (Operand.tmp 88)),
            SOper.mk (some 90) none (SOp.mv (Operand.tmp 15)), SOper.mk (some 91) none (SOp.len false (Operand.tmp 90)),
            SOper.mk (some 92) none (SOp.ibin BinOp.lss (Operand.tmp 89) (Operand.tmp 91)),
            SOper.mk (some 93) none (SOp.mv (Operand.tmp 92)),
            SOper.mk (some 94) (some (93, true)) (SOp.mv (Operand.tmp 15)),
            SOper.mk (some 95) (some (93, true)) (SOp.fld 1 (Operand.tmp 14)),
            SOper.mk (some 96) (some (93, true)) (SOp.load false 1 (Operand.tmp 95)),
            SOper.mk (some 97) (some (93, true)) (SOp.idx 2 (Operand.tmp 94) (Operand.tmp 96)),
            SOper.mk (some 98) (some (93, true)) (SOp.fld 0 (Operand.tmp 97)),
            SOper.mk (some 99) (some (93, true)) (SOp.load false 1 (Operand.tmp 98)),
            SOper.mk (some 100) (some (93, true)) (SOp.un UnOp.not (Operand.tmp 99)),
            SOper.mk (some 101) none (SOp.pick (Operand.tmp 93) (Operand.tmp 100) (Operand.const (Value.bool false))),
            SOper.mk (some 102) none (SOp.mv (Operand.tmp 101)),
            SOper.mk (some 103) (some (102, true)) (SOp.mv (Operand.tmp 15)),
            SOper.mk (some 104) (some (102, true)) (SOp.fld 1 (Operand.tmp 14)),
            SOper.mk (some 105) (some (102, true)) (SOp.load false 1 (Operand.tmp 104)),
            SOper.mk (some 106) (some (102, true)) (SOp.idx 2 (Operand.tmp 103) (Operand.tmp 105)),
            SOper.mk (some 107) (some (102, true)) (SOp.fld 1 (Operand.tmp 106)),
            SOper.mk (some 108) (some (102, true)) (SOp.load false 1 (Operand.tmp 107)),
            SOper.mk (some 109) (some (102, true)) (SOp.fld 0 (Operand.tmp 12)),
            SOper.mk (some 110) (some (102, true)) (SOp.load false 1 (Operand.tmp 109)),
            SOper.mk (some 111) (some (102, true)) (SOp.ibin BinOp.eql (Operand.tmp 108) (Operand.tmp 110)),
            SOper.mk (some 112) none (SOp.pick (Operand.tmp 102) (Operand.tmp 111) (Operand.const (Value.bool false)))]
          [2, 5, 7, 8, 9, 11, 12, 14, 75, 76, 77, 112])
        (Stmt.cond (Operand.tmp 112)
          (Stmt.region
            [SOper.mk (some 113) none (SOp.mv (Operand.tmp 9)), SOper.mk (some 114) none (SOp.fld 0 (Operand.tmp 14)),
              SOper.mk (some 115) none (SOp.load false 1 (Operand.tmp 114)),
              SOper.mk (some 116) none (SOp.fld 1 (Operand.tmp 14)),
              SOper.mk (some 117) none (SOp.load false 1 (Operand.tmp 116)),
              SOper.mk (some 118) none (SOp.ibin BinOp.add (Operand.tmp 117) (Operand.const (Value.int IntKind.i64 1))),
              SOper.mk (some 119) none (SOp.fld 2 (Operand.tmp 14)),
              SOper.mk (some 120) none (SOp.load false 1 (Operand.tmp 119)),
              SOper.mk (some 121) none (SOp.fld 2 (Operand.tmp 11)),
              SOper.mk (some 122) none (SOp.load false 1 (Operand.tmp 121)),
              SOper.mk (some 123) none (SOp.ibin BinOp.add (Operand.tmp 120) (Operand.tmp 122)),
              SOper.mk (some 124) none
                (SOp.build 223 [Value.int IntKind.i64 0, Value.int IntKind.i64 0, Value.int IntKind.i64 0]
                  [(0, 1, Operand.tmp 115), (1, 1, Operand.tmp 118), (2, 1, Operand.tmp 123)]),
              SOper.mk (some 125) none (SOp.call (Operand.tmp 113) [Operand.tmp 124])]
            [2, 5, 7, 8, 9, 11, 12, 75, 76, 77])
          Stmt.skip))))
def S114_3 : Stmt :=
  Stmt.region
  [SOper.mk (some 126) none (SOp.ibin BinOp.add (Operand.tmp 77) (Operand.const (Value.int IntKind.i64 1))),
    SOper.mk (some 77) none (SOp.mv (Operand.tmp 126))]
  [2, 5, 7, 8, 9, 11, 12, 75, 76, 77]
def S114_4 : Stmt :=
  Stmt.seq
  (Stmt.region [SOper.mk (some 78) none (SOp.ibin BinOp.lss (Operand.tmp 77) (Operand.tmp 76))]
    [2, 5, 7, 8, 9, 11, 12, 75, 76, 77, 78])
  (Stmt.seq (Stmt.cond (Operand.tmp 78) Stmt.skip (Stmt.exit 4))
    (Stmt.join S114_2 S114_3 [] [2, 5, 7, 8, 9, 11, 12, 75, 76, 77]))
def S114_5 : Stmt :=
  Stmt.seq
  (Stmt.quiet
    [SOper.mk (some 57) none (SOp.mv (Operand.tmp 5)), SOper.mk (some 58) none (SOp.fld 0 (Operand.tmp 12)),
      SOper.mk (some 59) none (SOp.load false 1 (Operand.tmp 58)),
      SOper.mk (some 60) none (SOp.idx 1 (Operand.tmp 57) (Operand.tmp 59)),
      SOper.mk (some 61) none (SOp.load false 1 (Operand.tmp 60)), SOper.mk (some 62) none (SOp.fld 2 (Operand.tmp 11)),
      SOper.mk (some 63) none (SOp.load false 1 (Operand.tmp 62)),
      SOper.mk (some 64) none (SOp.idx 1 (Operand.tmp 61) (Operand.tmp 63)),
      SOper.mk (some 65) none (SOp.load false 1 (Operand.tmp 64)),
      SOper.mk (some 66) none (SOp.un UnOp.not (Operand.tmp 65))]
    [2, 5, 7, 8, 9, 11, 12, 66])
  (Stmt.cond (Operand.tmp 66)
    (Stmt.seq
      (Stmt.drawn
        [(false, SOper.mk (some 67) none (SOp.mv (Operand.tmp 5))),
          (false, SOper.mk (some 68) none (SOp.fld 0 (Operand.tmp 12))),
          (false, SOper.mk (some 69) none (SOp.load false 1 (Operand.tmp 68))),
          (false, SOper.mk (some 70) none (SOp.idx 1 (Operand.tmp 67) (Operand.tmp 69))),
          (false, SOper.mk (some 71) none (SOp.load false 1 (Operand.tmp 70))),
          (false, SOper.mk (some 72) none (SOp.fld 2 (Operand.tmp 11))),
          (false, SOper.mk (some 73) none (SOp.load false 1 (Operand.tmp 72))),
          (false, SOper.mk (some 74) none (SOp.idx 1 (Operand.tmp 71) (Operand.tmp 73))),
          (false, SOper.mk none none (SOp.store 1 (Operand.tmp 74) (Operand.const (Value.bool true))))]
        [2, 5, 7, 8, 9, 11, 12])
      (Stmt.seq
        (Stmt.region
          [SOper.mk (some 75) none (SOp.load false 1 (Operand.tmp 7)),
            SOper.mk (some 76) none (SOp.len false (Operand.tmp 75)),
            SOper.mk (some 77) none (SOp.mv (Operand.const (Value.int IntKind.i64 0)))]
          [2, 5, 7, 8, 9, 11, 12, 75, 76, 77])
        (Stmt.block 4 (Stmt.loop S114_4 [77] [2, 5, 7, 8, 9, 11, 12, 75, 76]))))
    Stmt.skip)
def S114_6 : Stmt :=
  Stmt.exit 3
def S114_7 : Stmt :=
  Stmt.block 7
  (Stmt.seq
    (Stmt.region
      [SOper.mk (some 154) none (SOp.mv (Operand.tmp 152)),
        SOper.mk (some 155) none (SOp.idx 1 (Operand.tmp 150) (Operand.tmp 152)),
        SOper.mk (some 156) none (SOp.load false 1 (Operand.tmp 155)),
        SOper.mk (some 17) none (SOp.mv (Operand.tmp 154)), SOper.mk (some 18) none (SOp.mv (Operand.tmp 156))]
      [2, 5, 7, 8, 9, 11, 17, 18, 150, 151, 152])
    (Stmt.seq
      (Stmt.region [SOper.mk (some 157) none (SOp.mv (Operand.tmp 18))] [2, 5, 7, 8, 9, 11, 17, 150, 151, 152, 157])
      (Stmt.cond (Operand.tmp 157)
        (Stmt.region
          [SOper.mk (some 158) none (SOp.mv (Operand.tmp 9)), SOper.mk (some 159) none (SOp.fld 0 (Operand.tmp 11)),
            SOper.mk (some 160) none (SOp.load false 1 (Operand.tmp 159)),
            SOper.mk (some 161) none (SOp.fld 1 (Operand.tmp 11)),
            SOper.mk (some 162) none (SOp.load false 1 (Operand.tmp 161)),
            SOper.mk (some 163) none (SOp.ibin BinOp.add (Operand.tmp 162) (Operand.const (Value.int IntKind.i64 1))),
            SOper.mk (some 164) none (SOp.fld 2 (Operand.tmp 11)),
            SOper.mk (some 165) none (SOp.load false 1 (Operand.tmp 164)),
            SOper.mk (some 166) none (SOp.mv (Operand.tmp 17)),
            SOper.mk (some 167) none (SOp.ibin BinOp.add (Operand.tmp 165) (Operand.tmp 166)),
            SOper.mk (some 168) none
              (SOp.build 223 [Value.int IntKind.i64 0, Value.int IntKind.i64 0, Value.int IntKind.i64 0]
                [(0, 1, Operand.tmp 160), (1, 1, Operand.tmp 163), (2, 1, Operand.tmp 167)]),
            SOper.mk (some 169) none (SOp.call (Operand.tmp 158) [Operand.tmp 168])]
          [2, 5, 7, 8, 9, 11, 150, 151, 152])
        Stmt.skip)))
def S114_8 : Stmt :=
  Stmt.region
  [SOper.mk (some 170) none (SOp.ibin BinOp.add (Operand.tmp 152) (Operand.const (Value.int IntKind.i64 1))),
    SOper.mk (some 152) none (SOp.mv (Operand.tmp 170))]
  [2, 5, 7, 8, 9, 11, 150, 151, 152]
def S114_9 : Stmt :=
  Stmt.seq
  (Stmt.region [SOper.mk (some 153) none (SOp.ibin BinOp.lss (Operand.tmp 152) (Operand.tmp 151))]
    [2, 5, 7, 8, 9, 11, 150, 151, 152, 153])
  (Stmt.seq (Stmt.cond (Operand.tmp 153) Stmt.skip (Stmt.exit 6))
    (Stmt.join S114_7 S114_8 [] [2, 5, 7, 8, 9, 11, 150, 151, 152]))
def S114_10 : Stmt :=
  Stmt.seq
  (Stmt.seq
    (Stmt.region
      [SOper.mk (some 37) none (SOp.load false 1 (Operand.tmp 8)),
        SOper.mk (some 38) none (SOp.len false (Operand.tmp 37)),
        SOper.mk (some 39) none (SOp.ibin BinOp.gtr (Operand.tmp 38) (Operand.const (Value.int IntKind.i64 0)))]
      [2, 5, 7, 8, 9, 39])
    (Stmt.cond (Operand.tmp 39) Stmt.skip (Stmt.exit 2)))
  (Stmt.block 3
    (Stmt.seq
      (Stmt.region
        [SOper.mk (some 40) none (SOp.load false 1 (Operand.tmp 8)),
          SOper.mk (some 41) none (SOp.idx 3 (Operand.tmp 40) (Operand.const (Value.int IntKind.i64 0))),
          SOper.mk (some 42) none (SOp.load true 3 (Operand.tmp 41)),
          SOper.mk (some 11) none
            (SOp.alloc true 223
              (Value.agg (Array.mk [Value.int IntKind.i64 0, Value.int IntKind.i64 0, Value.int IntKind.i64 0]))),
          SOper.mk none none (SOp.store 3 (Operand.tmp 11) (Operand.tmp 42))]
        [2, 5, 7, 8, 9, 11])
      (Stmt.seq
        (Stmt.region
          [SOper.mk (some 43) none (SOp.load false 1 (Operand.tmp 8)),
            SOper.mk (some 44) none
              (SOp.slc 3 (Operand.tmp 43) (some (Operand.const (Value.int IntKind.i64 1))) none none),
            SOper.mk none none (SOp.store 1 (Operand.tmp 8) (Operand.tmp 44))]
          [2, 5, 7, 8, 9, 11])
        (Stmt.seq
          (Stmt.region
            [SOper.mk (some 45) none (SOp.fld 3 (Operand.tmp 2)),
              SOper.mk (some 46) none (SOp.load false 1 (Operand.tmp 45)),
              SOper.mk (some 47) none (SOp.fld 0 (Operand.tmp 11)),
              SOper.mk (some 48) none (SOp.load false 1 (Operand.tmp 47)),
              SOper.mk (some 49) none (SOp.idx 2 (Operand.tmp 46) (Operand.tmp 48)),
              SOper.mk (some 50) none (SOp.load true 2 (Operand.tmp 49)),
              SOper.mk (some 12) none
                (SOp.alloc true 37 (Value.agg (Array.mk [Value.int IntKind.i64 0, Value.slice none 0 0]))),
              SOper.mk none none (SOp.store 2 (Operand.tmp 12) (Operand.tmp 50))]
            [2, 5, 7, 8, 9, 11, 12])
          (Stmt.seq
            (Stmt.seq
              (Stmt.region
                [SOper.mk (some 51) none (SOp.fld 1 (Operand.tmp 11)),
                  SOper.mk (some 52) none (SOp.load false 1 (Operand.tmp 51)),
                  SOper.mk (some 53) none (SOp.fld 1 (Operand.tmp 12)),
                  SOper.mk (some 54) none (SOp.load false 1 (Operand.tmp 53)),
                  SOper.mk (some 55) none (SOp.len false (Operand.tmp 54)),
                  SOper.mk (some 56) none (SOp.ibin BinOp.eql (Operand.tmp 52) (Operand.tmp 55))]
                [2, 5, 7, 8, 9, 11, 12, 56])
              (Stmt.cond (Operand.tmp 56) (Stmt.join S114_5 S114_6 [] [2, 5, 7, 8, 9]) Stmt.skip))
            (Stmt.seq
              (Stmt.region
                [SOper.mk (some 127) none (SOp.fld 1 (Operand.tmp 12)),
                  SOper.mk (some 128) none (SOp.load false 1 (Operand.tmp 127)),
                  SOper.mk (some 129) none (SOp.fld 1 (Operand.tmp 11)),
                  SOper.mk (some 130) none (SOp.load false 1 (Operand.tmp 129)),
                  SOper.mk (some 131) none (SOp.idx 2 (Operand.tmp 128) (Operand.tmp 130)),
                  SOper.mk (some 132) none (SOp.load true 2 (Operand.tmp 131)),
                  SOper.mk (some 16) none
                    (SOp.alloc true 39 (Value.agg (Array.mk [Value.bool false, Value.int IntKind.i64 0]))),
                  SOper.mk none none (SOp.store 2 (Operand.tmp 16) (Operand.tmp 132))]
                [2, 5, 7, 8, 9, 11, 16])
              (Stmt.seq
                (Stmt.seq
                  (Stmt.region
                    [SOper.mk (some 133) none (SOp.fld 0 (Operand.tmp 16)),
                      SOper.mk (some 134) none (SOp.load false 1 (Operand.tmp 133))]
                    [2, 5, 7, 8, 9, 11, 16, 134])
                  (Stmt.cond (Operand.tmp 134)
                    (Stmt.seq
                      (Stmt.region
                        [SOper.mk (some 135) none (SOp.mv (Operand.tmp 9)),
                          SOper.mk (some 136) none (SOp.fld 0 (Operand.tmp 11)),
                          SOper.mk (some 137) none (SOp.load false 1 (Operand.tmp 136)),
                          SOper.mk (some 138) none (SOp.fld 1 (Operand.tmp 11)),
                          SOper.mk (some 139) none (SOp.load false 1 (Operand.tmp 138)),
                          SOper.mk (some 140) none
                            (SOp.ibin BinOp.add (Operand.tmp 139) (Operand.const (Value.int IntKind.i64 1))),
                          SOper.mk (some 141) none (SOp.fld 2 (Operand.tmp 11)),
                          SOper.mk (some 142) none (SOp.load false 1 (Operand.tmp 141)),
                          SOper.mk (some 143) none
                            (SOp.ibin BinOp.add (Operand.tmp 142) (Operand.const (Value.int IntKind.i64 1))),
                          SOper.mk (some 144) none
                            (SOp.build 223 [Value.int IntKind.i64 0, Value.int IntKind.i64 0, Value.int IntKind.i64 0]
                              [(0, 1, Operand.tmp 137), (1, 1, Operand.tmp 140), (2, 1, Operand.tmp 143)]),
                          SOper.mk (some 145) none (SOp.call (Operand.tmp 135) [Operand.tmp 144])]
                        [2, 5, 7, 8, 9])
                      (Stmt.exit 3))
                    Stmt.skip))
                (Stmt.seq
                  (Stmt.region
                    [SOper.mk (some 146) none (SOp.mv (Operand.tmp 5)),
                      SOper.mk (some 147) none (SOp.fld 1 (Operand.tmp 16)),
                      SOper.mk (some 148) none (SOp.load false 1 (Operand.tmp 147)),
                      SOper.mk (some 149) none (SOp.idx 1 (Operand.tmp 146) (Operand.tmp 148)),
                      SOper.mk (some 150) none (SOp.load false 1 (Operand.tmp 149)),
                      SOper.mk (some 151) none (SOp.len false (Operand.tmp 150)),
                      SOper.mk (some 152) none (SOp.mv (Operand.const (Value.int IntKind.i64 0)))]
                    [2, 5, 7, 8, 9, 11, 150, 151, 152])
                  (Stmt.block 6 (Stmt.loop S114_9 [152] [2, 5, 7, 8, 9, 11, 150, 151]))))))))))
def S114_0 : Stmt :=
  Stmt.seq
  (Stmt.region
    [SOper.mk (some 2) none (SOp.box true 57 (Operand.tmp 0)), SOper.mk (some 3) none (SOp.box false 3 (Operand.tmp 1)),
      SOper.mk (some 4) none (SOp.mv (Operand.const (Value.slice none 0 0)))]
    [2, 3])
  (Stmt.seq
    (Stmt.region
      [SOper.mk (some 19) none (SOp.fld 1 (Operand.tmp 2)), SOper.mk (some 20) none (SOp.load false 1 (Operand.tmp 19)),
        SOper.mk (some 21) none (SOp.load false 1 (Operand.tmp 3)),
        SOper.mk (some 22) none (SOp.ibin BinOp.add (Operand.tmp 21) (Operand.const (Value.int IntKind.i64 1))),
        SOper.mk (some 23) none (SOp.call (Operand.func 151) [Operand.tmp 20, Operand.tmp 22]),
        SOper.mk (some 5) none (SOp.mv (Operand.tmp 23))]
      [2, 3, 5])
    (Stmt.seq
      (Stmt.region
        [SOper.mk (some 24) none (SOp.n (Qk.mkmap 220) []),
          SOper.mk (some 6) none (SOp.alloc false 220 (Value.map none)),
          SOper.mk none none (SOp.store 1 (Operand.tmp 6) (Operand.tmp 24))]
        [2, 3, 5, 6])
      (Stmt.seq
        (Stmt.region
          [SOper.mk (some 7) none (SOp.alloc false 221 (Value.slice none 0 0)),
            SOper.mk (some 8) none (SOp.alloc false 221 (Value.slice none 0 0))]
          [2, 3, 5, 6, 7, 8])
        (Stmt.seq
          (Stmt.region
            [SOper.mk (some 25) none (SOp.mkFunc 173 [Operand.tmp 3, Operand.tmp 6, Operand.tmp 7, Operand.tmp 8]),
              SOper.mk (some 9) none (SOp.mv (Operand.tmp 25))]
            [2, 5, 7, 8, 9])
          (Stmt.seq
            (Stmt.seq
              (Stmt.region
                [SOper.mk (some 26) none (SOp.fld 3 (Operand.tmp 2)),
                  SOper.mk (some 27) none (SOp.load false 1 (Operand.tmp 26)),
                  SOper.mk (some 28) none (SOp.len false (Operand.tmp 27)),
                  SOper.mk (some 29) none (SOp.mv (Operand.const (Value.int IntKind.i64 0)))]
                [2, 5, 7, 8, 9, 28, 29])
              (Stmt.block 0 (Stmt.loop S114_1 [29] [2, 5, 7, 8, 9, 28])))
            (Stmt.seq (Stmt.block 2 (Stmt.loop S114_10 [8] [2, 5, 7, 9]))
              (Stmt.seq
                (Stmt.region
                  [SOper.mk (some 171) none (SOp.mv (Operand.tmp 5)), SOper.mk (some 4) none (SOp.mv (Operand.tmp 171))]
                  [4])
                Stmt.ret)))))))
def S114 : FnS := ⟨172, [(4, none)], S114_0⟩
theorem tr114 : trFn Try.prog 114 [2, 11, 12, 14, 16] [[2, 3], [2, 3, 5], [2, 3, 5, 6], [2, 3, 5, 6, 7, 8], [2, 5, 7, 8, 9], [2, 5, 7, 8, 9, 28, 29], [29], [2, 5, 7, 8, 9, 28], [2, 5, 7, 8, 9, 28, 29, 30], [2, 5, 7, 8, 9, 10, 28, 29], [2, 5, 7, 8, 9, 28, 29], [2, 5, 7, 8, 9, 28, 29], [8], [2, 5, 7, 9], [2, 5, 7, 8, 9, 39], [2, 5, 7, 8, 9, 11], [2, 5, 7, 8, 9, 11], [2, 5, 7, 8, 9, 11, 12], [2, 5, 7, 8, 9, 11, 12, 56], [], [2, 5, 7, 8, 9], [2, 5, 7, 8, 9, 11, 12, 66], [2, 5, 7, 8, 9, 11, 12], [0, 1, 2, 3, 4, 5, 6, 7, 8], [], [], [], [1], [0, 1, 2], [0, 1, 2, 3], [], [5], [0, 1, 2, 3, 4, 5, 6], [0, 1, 2, 3, 4, 5, 6, 7], [2, 5, 7, 8, 9, 11, 12, 75, 76, 77], [77], [2, 5, 7, 8, 9, 11, 12, 75, 76], [2, 5, 7, 8, 9, 11, 12, 75, 76, 77, 78], [], [2, 5, 7, 8, 9, 11, 12, 75, 76, 77], [2, 5, 7, 8, 9, 11, 12, 14, 75, 76, 77], [2, 5, 7, 8, 9, 11, 12, 14, 15, 75, 76, 77], [2, 5, 7, 8, 9, 11, 12, 14, 75, 76, 77, 112], [2, 5, 7, 8, 9, 11, 12, 75, 76, 77], [2, 5, 7, 8, 9, 11, 12, 75, 76, 77], [2, 5, 7, 8, 9, 11, 16], [2, 5, 7, 8, 9, 11, 16, 134], [2, 5, 7, 8, 9], [2, 5, 7, 8, 9, 11, 150, 151, 152], [152], [2, 5, 7, 8, 9, 11, 150, 151], [2, 5, 7, 8, 9, 11, 150, 151, 152, 153], [], [2, 5, 7, 8, 9, 11, 150, 151, 152], [2, 5, 7, 8, 9, 11, 17, 18, 150, 151, 152], [2, 5, 7, 8, 9, 11, 17, 150, 151, 152, 157], [2, 5, 7, 8, 9, 11, 150, 151, 152], [2, 5, 7, 8, 9, 11, 150, 151, 152], [4]] = some S114 := by kernel_rfl
end Go.Proofs.Ytniobbepliknmaa.V
