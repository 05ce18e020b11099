/- Lengths of words, item by item: the plain law; no condition. -/
import Derived.Test.YtniobbepliknmaaDlens
import Derived.Test.YtniobbepliknmaaPadd
namespace Go.Proofs.Ytniobbepliknmaa.V
open Go
set_option linter.unusedVariables false
set_option linter.unusedSimpArgs false

theorem LenD.snocT {g : Gr} {l : List Sy} {k : Nat} {n : Int} (h : LenD g l k) : LenD g (l ++ [⟨true, n⟩]) (k + 1) := by
  induction h with
  | nil => exact .term .nil
  | @term n' l k _ ih => rw [Nat.add_assoc]; exact .term ih
  | @non a l r j k hr ha hd _ _ ih2 => rw [Nat.add_assoc]; exact .non hr ha hd ih2
theorem LenD.snocN {g : Gr} {l : List Sy} {k j : Nat} {a : Int} (h : LenD g l k) (ha : HasD g a j) : LenD g (l ++ [⟨false, a⟩]) (k + j) := by
  induction h with
  | nil =>
    obtain ⟨r, hr, h1, h2⟩ := ha
    rw [Nat.zero_add, show j = j + 0 from rfl]
    exact .non hr h1 h2 .nil
  | @term n' l k _ ih => rw [Nat.add_assoc]; exact .term ih
  | @non b l r i k hr hb hd _ _ ih2 => rw [Nat.add_assoc]; exact .non hr hb hd ih2
/-- an item is so -/
def ItS (g : Gr) (n : Nat) (x : It) : Prop := 0 ≤ x.r ∧ 0 ≤ x.d ∧ 0 ≤ x.n ∧ x.n ≤ n ∧ ∃ r, g.rs[x.r.toNat]? = some r ∧ x.d.toNat ≤ r.r.length ∧ LenD g (r.r.take x.d.toNat) x.n.toNat
def toldL (rows : List (List Bool)) (a : Int) (k : Nat) : Prop := (rows.getD a.toNat []).getD k false = true
/-- what follows from an item is there -/
def ItC (g : Gr) (n : Nat) (rows : List (List Bool)) (all : List It) (x : It) : Prop := ∀ r, g.rs[x.r.toNat]? = some r →
  (x.d.toNat = r.r.length → toldL rows r.l x.n.toNat) ∧ ∀ s, r.r[x.d.toNat]? = some s →
    (s.t = true → x.n + 1 ≤ n → (⟨x.r, x.d + 1, x.n + 1⟩ : It) ∈ all) ∧ (s.t = false → ∀ k : Nat, toldL rows s.n k → x.n + k ≤ n → (⟨x.r, x.d + 1, x.n + k⟩ : It) ∈ all)
theorem work_all {g : Gr} {n : Nat} {rows : List (List Bool)} {all : List It} (h0 : ∀ i : Nat, i < g.rs.length → (⟨i, 0, 0⟩ : It) ∈ all) (hc : ∀ x ∈ all, ItC g n rows all x) {l : List Sy} {m : Nat} (hd : LenD g l m) :
    ∀ (i k : Nat) (r : Ru) (pre : List Sy), g.rs[i]? = some r → r.r = pre ++ l → (⟨i, pre.length, k⟩ : It) ∈ all → k + m ≤ n → (⟨i, r.r.length, (k + m : Nat)⟩ : It) ∈ all := by
  induction hd with
  | nil =>
    intro i k r pre hr hp hin hk
    rw [hp]
    simpa using hin
  | @term a l m _ ih =>
    intro i k r pre hr hp hin hk
    have hs : r.r[pre.length]? = some ⟨true, a⟩ := by rw [hp]; simp
    have := ((hc _ hin r (by simpa using hr)).2 _ (by simpa using hs)).1 rfl (by simp only; omega)
    have h2 := ih i (k + 1) r (pre ++ [⟨true, a⟩]) hr (by rw [hp]; simp) (by simpa using this) (by omega)
    rw [show k + (1 + m) = k + 1 + m by omega]
    exact h2
  | @non a l r' j m hr' ha hd1 _ ih1 ih2 =>
    intro i k r pre hr hp hin hk
    obtain ⟨i', hi', e⟩ := List.getElem_of_mem hr'
    have hg : g.rs[i']? = some r' := by rw [List.getElem?_eq_getElem hi', e]
    have h1 := ih1 i' 0 r' [] hg (by simp) (by simpa using h0 i' hi') (by omega)
    have htold := (hc _ h1 r' (by simpa using hg)).1 (by simp)
    rw [ha] at htold
    have hs : r.r[pre.length]? = some ⟨false, a⟩ := by rw [hp]; simp
    have := ((hc _ hin r (by simpa using hr)).2 _ (by simpa using hs)).2 rfl j (by simpa using htold) (by simp only; omega)
    have h2 := ih2 i (k + j) r (pre ++ [⟨false, a⟩]) hr (by rw [hp]; simp) (by simpa using this) (by omega)
    rw [show k + (j + m) = k + j + m by omega]
    exact h2
/-- all is told -/
theorem work_told {g : Gr} {n : Nat} {rows : List (List Bool)} {all : List It} (h0 : ∀ i : Nat, i < g.rs.length → (⟨i, 0, 0⟩ : It) ∈ all) (hc : ∀ x ∈ all, ItC g n rows all x) {a : Int} {k : Nat} (hk : k ≤ n) (h : HasD g a k) : toldL rows a k := by
  obtain ⟨r, hr, ha, hd⟩ := h
  obtain ⟨i, hi, e⟩ := List.getElem_of_mem hr
  have hg : g.rs[i]? = some r := by rw [List.getElem?_eq_getElem hi, e]
  have h1 := work_all h0 hc hd i 0 r [] hg (by simp) (by simpa using h0 i hi) (by omega)
  have := (hc _ h1 r (by simpa using hg)).1 (by simp)
  rw [ha] at this
  simpa using this
theorem nodup_bound : ∀ (M : Nat) (l : List Nat), l.Nodup → (∀ x ∈ l, x < M) → l.length ≤ M
  | 0, [], _, _ => Nat.le_refl _
  | 0, x :: l, _, h => by have := h x (by simp); omega
  | M + 1, l, hn, h => by
    have h1 := nodup_bound M (l.erase M) (hn.erase M) (fun x hx => by
      rw [hn.mem_erase_iff] at hx
      have := h x hx.2
      have := hx.1
      omega)
    rw [List.length_erase] at h1
    split at h1 <;> omega
/-- an item's number -/
def itCode (n : Nat) (x : It) : Nat := (x.r.toNat * 5 + x.d.toNat) * (n + 1) + x.n.toNat
theorem itCode_inj {n : Nat} {x y : It} (hx : 0 ≤ x.r ∧ 0 ≤ x.d ∧ x.d ≤ 4 ∧ 0 ≤ x.n ∧ x.n ≤ n) (hy : 0 ≤ y.r ∧ 0 ≤ y.d ∧ y.d ≤ 4 ∧ 0 ≤ y.n ∧ y.n ≤ n) (h : itCode n x = itCode n y) : x = y := by
  unfold itCode at h
  have e1 : x.n.toNat = y.n.toNat := by
    have := congrArg (· % (n + 1)) h
    simp only [Nat.mul_comm _ (n + 1)] at this
    rw [Nat.mul_add_mod, Nat.mul_add_mod, Nat.mod_eq_of_lt (by omega), Nat.mod_eq_of_lt (by omega)] at this
    exact this
  have e2 : (x.r.toNat * 5 + x.d.toNat) = (y.r.toNat * 5 + y.d.toNat) := by
    rw [e1] at h
    exact Nat.eq_of_mul_eq_mul_right (show 0 < n + 1 by omega) (Nat.add_right_cancel h)
  cases x
  cases y
  simp only [It.mk.injEq] at *
  omega
theorem items_bound {n : Nat} {all : List It} (hn : all.Nodup) (h : ∀ x ∈ all, 0 ≤ x.r ∧ x.r < 32 ∧ 0 ≤ x.d ∧ x.d ≤ 4 ∧ 0 ≤ x.n ∧ x.n ≤ n) : all.length ≤ 160 * (n + 1) := by
  have h1 : (all.map (itCode n)).Nodup := by
    rw [List.Nodup, List.pairwise_map]
    refine List.Pairwise.imp_of_mem ?_ hn
    intro a b ha hb hne e
    have h1 := h a ha
    have h2 := h b hb
    exact hne (itCode_inj ⟨h1.1, h1.2.2.1, h1.2.2.2.1, h1.2.2.2.2.1, h1.2.2.2.2.2⟩ ⟨h2.1, h2.2.2.1, h2.2.2.2.1, h2.2.2.2.2.1, h2.2.2.2.2.2⟩ e)
  have h2 := nodup_bound (160 * (n + 1)) _ h1 (fun c hc => by
    obtain ⟨x, hx, rfl⟩ := List.mem_map.1 hc
    have := h x hx
    unfold itCode
    have h3 : x.r.toNat * 5 + x.d.toNat ≤ 159 := by omega
    have h4 : (x.r.toNat * 5 + x.d.toNat) * (n + 1) ≤ 159 * (n + 1) := Nat.mul_le_mul_right _ h3
    have h5 : 160 * (n + 1) = 159 * (n + 1) + (n + 1) := by rw [← Nat.succ_mul]
    omega)
  simpa using h2
end Go.Proofs.Ytniobbepliknmaa.V
