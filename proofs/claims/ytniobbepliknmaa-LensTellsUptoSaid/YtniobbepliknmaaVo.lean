/- Keys that are structs or arrays of whole numbers; no condition. -/
import Derived.Test.YtniobbepliknmaaVn
import Derived.DeepKeys5
import Derived.MapFrom
namespace Go.Proofs.Ytniobbepliknmaa.V
open Go
set_option linter.unusedVariables false
set_option linter.unusedSimpArgs false

/-- a struct of n fields of type e, or an array of n -/
def intsKey (P : Program) (k e n : Nat) : Bool := match P.underlying k with
  | some (.struct fs) => fs.toList.map (fun f => (f.offset, f.type)) == (List.range n).map (fun i => (i, e)) && fs.all (·.name != "_")
  | some (.array m t) => m == n && t == e
  | _ => false
def intsV (xs : List Int) : Value := .agg (xs.map (Value.int .i64)).toArray
theorem intsV_inj (a b : List Int) (h : intsV a = intsV b) : a = b := by
  simp only [intsV, Value.agg.injEq] at h
  have := congrArg Array.toList h
  simp only [List.toList_toArray] at this
  exact (List.map_inj_right (fun x y q => by simpa using q)).1 this
def okInts (n : Nat) (xs : List Int) : Prop := xs.length = n ∧ ∀ x ∈ xs, (Lit.int .i64 x).wf = true
theorem key_ints {P : Program} {k e n : Nat} (hk : intsKey P k e n = true) (hc : P.cellsOf k = n) (he : P.underlying e = some (.int .i64)) (hce : P.cellsOf e = 1) (hkt : P.keyType k = true) (hsz : 1 ≤ P.types.size) {xs : List Int} (hx : okInts n xs) : ∃ l, keyOf P k (intsV xs) = some l := by
  obtain ⟨m, hm⟩ : ∃ m, P.types.size = m + 1 := ⟨P.types.size - 1, by omega⟩
  obtain ⟨hl, hw⟩ := hx
  have hone : ∀ i, i < n → ∃ y, P.keyLits (m + 1) e (((xs.map (Value.int .i64)).drop i).take (P.cellsOf e)) = some y := by
    intro i hi
    have : ((xs.map (Value.int .i64)).drop i).take (P.cellsOf e) = [.int .i64 xs[i]] := by
      rw [hce, List.drop_eq_getElem_cons (by simpa using (by omega : i < xs.length))]
      simp
    rw [this]
    unfold Program.keyLits
    simp only [he]
    exact ⟨_, if_pos ⟨trivial, hw _ (List.getElem_mem _)⟩⟩
  unfold keyOf
  unfold intsKey at hk
  split at hk
  · rename_i fs hu
    simp only [Bool.and_eq_true, beq_iff_eq] at hk
    simp only [hu]
    rw [if_pos (by simp [hkt, intsV, Value.formed, hu, hc, hl]), hm]
    unfold Program.keyLits
    simp only [hu, intsV, Value.cells, List.toList_toArray]
    rw [if_pos ⟨by simp [hc, hl], hk.2⟩]
    have : ∃ r, (fs.toList.mapM fun f => P.keyLits (m + 1) f.type (((xs.map (Value.int .i64)).drop f.offset).take (P.cellsOf f.type))) = some r := by
      refine MapFrom.mapM_some fun f hf => ?_
      have : (f.offset, f.type) ∈ (List.range n).map (fun i => (i, e)) := by rw [← hk.1]; exact List.mem_map.2 ⟨f, hf, rfl⟩
      obtain ⟨i, hi, h⟩ := List.mem_map.1 this
      simp only [Prod.mk.injEq] at h
      rw [← h.1, ← h.2]
      exact hone i (by simpa using hi)
    obtain ⟨r, hr⟩ := this
    rw [hr]
    exact ⟨_, rfl⟩
  · rename_i m' t hu
    simp only [Bool.and_eq_true, beq_iff_eq] at hk
    obtain ⟨rfl, rfl⟩ := hk
    simp only [hu]
    rw [if_pos (by simp [hkt, intsV, Value.formed, hu, hc, hl]), hm]
    unfold Program.keyLits
    simp only [hu, intsV, Value.cells, List.toList_toArray]
    rw [if_pos (by simp [hc, hl])]
    have : ∃ r, ((List.range m').mapM fun i => P.keyLits (m + 1) t (((xs.map (Value.int .i64)).drop (i * P.cellsOf t)).take (P.cellsOf t))) = some r := by
      refine MapFrom.mapM_some fun i hi => ?_
      rw [show i * P.cellsOf t = i by rw [hce, Nat.mul_one]]
      exact hone i (by simpa using hi)
    obtain ⟨r, hr⟩ := this
    rw [hr]
    exact ⟨_, rfl⟩
  · cases hk
theorem kt_ints {P : Program} {k e n : Nat} (hl : laidOutB P = true) (hs : P.types.size + 2 ≤ 10000) (hr : k < P.types.size) (hk : intsKey P k e n = true) (hc : P.cellsOf k = n) (he : P.underlying e = some (.int .i64)) (hce : P.cellsOf e = 1) (hkt : P.keyType k = true)
    (hw : (match P.underlying k with | some (.array _ _) | some (.struct _) => true | _ => false) = true) : KT P k intsV (okInts n) :=
  KT.of (Maps.Keyed.of_law (deep_law_gate hl hs hr hkt hw)) intsV_inj fun xs hx => key_ints hk hc he hce hkt (by omega) hx
theorem wf64 {x : Int} (h0 : -9223372036854775808 ≤ x) (h1 : x ≤ 9223372036854775807) : (Lit.int .i64 x).wf = true := by
  have h2 : IntKind.i64.min = -9223372036854775808 := by decide
  have h3 : IntKind.i64.max = 9223372036854775807 := by decide
  simp only [Lit.wf, h2, h3, Bool.and_eq_true, decide_eq_true_eq]
  exact ⟨h0, h1⟩
/-- xs[k:] of a row -/
theorem Bld.drop {α : Type} [Rep α] {g : PH} {L : Mem} {e : TypeId} {A : Option Addr} {n c : Nat} {xs : List α} (h : Bld g L e (.slice A n c) xs) {k : Nat} (hk : k ≤ xs.length) :
    Bld g L e (.slice (if c = k then A else A.map (·.add (k * Rep.sz α))) (n - k) (c - k)) (xs.drop k) := by
  obtain ⟨cs, ⟨h1, h2⟩, h3⟩ := h
  have hkl : k * Rep.sz α ≤ xs.length * Rep.sz α := Nat.mul_le_mul_right _ hk
  have hl : (xs.drop k).length = xs.length - k := by simp
  have hmul : xs.length * Rep.sz α - k * Rep.sz α = (xs.length - k) * Rep.sz α := (Nat.sub_mul _ _ _).symm
  refine ⟨cs.drop (k * Rep.sz α), ⟨by rw [List.length_drop, h1, hl, hmul], ?_⟩, fun i x hi => ?_⟩
  · rcases h2 with ⟨q0, A', q⟩ | ⟨b, o, cap, cur, q1, q2, q3, q4, q5, q6⟩
    · left
      simp only [Value.slice.injEq] at q
      obtain ⟨rfl, rfl, rfl⟩ := q
      have : k = 0 := by omega
      subst this
      exact ⟨by rw [hl]; omega, A, by simp⟩
    · simp only [Value.slice.injEq] at q1
      obtain ⟨rfl, rfl, rfl⟩ := q1
      by_cases e1 : cap + 1 = k
      · left
        refine ⟨by rw [hl]; omega, some ⟨b, o, none⟩, ?_⟩
        rw [if_pos e1, show xs.length - k = 0 by omega, show cap + 1 - k = 0 by omega]
      · right
        rw [if_neg e1, hl]
        have hm2 : (cap - k + 1) * Rep.sz α + k * Rep.sz α = (cap + 1) * Rep.sz α := by rw [← Nat.add_mul]; congr 1; omega
        refine ⟨b, o + k * Rep.sz α, cap - k, cur, by rw [Option.map_some, add_mk, show cap + 1 - k = cap - k + 1 by omega], by omega, by omega, q4, by omega, ?_⟩
        rw [← q6, List.drop_take, List.drop_drop, hmul]
  · rw [List.getElem?_drop] at hi
    obtain ⟨c', r1, r2⟩ := h3 (k + i) x hi
    refine ⟨c', r1, fun j hj => ?_⟩
    rw [← r2 j hj, List.getElem?_drop]
    congr 1
    rw [Nat.add_mul]
    omega
end Go.Proofs.Ytniobbepliknmaa.V
