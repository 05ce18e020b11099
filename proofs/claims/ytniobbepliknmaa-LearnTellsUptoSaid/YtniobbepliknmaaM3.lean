/- Texts put together, in the order in which they build; each says what it proves; no condition. -/
import Derived.Test.YtniobbepliknmaaM2
/- Data of this program: symbols, rules, grammars, automata; literals that are made; no condition. -/
namespace Go.Proofs.Ytniobbepliknmaa.V
open Go
set_option linter.unusedVariables false
set_option linter.unusedSimpArgs false

structure Sy where
  t : Bool
  n : Int
  deriving DecidableEq
structure Ru where
  l : Int
  r : List Sy
  deriving DecidableEq
structure Gr where
  ts : Int
  ns : Int
  st : Int
  rs : List Ru
  deriving DecidableEq
structure Da where
  st : Int
  ac : List Int
  nx : List (List Int)
  deriving DecidableEq
instance : Rep Sy where
  sz := 2
  ok _ x cs := cs = [.bool x.t, .int .i64 x.n]
  len h := by subst h; rfl
  one h := by subst h; simp [one', Value.oneCell']
  mono h _ := h
instance : Rep Ru where
  sz := 2
  ok L x cs := ∃ A c, cs = [.int .i64 x.l, .slice A x.r.length c] ∧ SlOk L A c x.r
  len h := by obtain ⟨A, c, rfl, _⟩ := h; rfl
  one h := by obtain ⟨A, c, rfl, _⟩ := h; simp [one', Value.oneCell']
  mono h hh := by obtain ⟨A, c, rfl, q⟩ := h; exact ⟨A, c, rfl, q.mono hh⟩
instance : Rep Gr where
  sz := 4
  ok L x cs := ∃ A c, cs = [.int .i64 x.ts, .int .i64 x.ns, .int .i64 x.st, .slice A x.rs.length c] ∧ SlOk L A c x.rs
  len h := by obtain ⟨A, c, rfl, _⟩ := h; rfl
  one h := by obtain ⟨A, c, rfl, _⟩ := h; simp [one', Value.oneCell']
  mono h hh := by obtain ⟨A, c, rfl, q⟩ := h; exact ⟨A, c, rfl, q.mono hh⟩
instance : Rep Da where
  sz := 3
  ok L x cs := ∃ A c B d, cs = [.int .i64 x.st, .slice A x.ac.length c, .slice B x.nx.length d] ∧ SlOk L A c x.ac ∧ SlOk L B d x.nx
  len h := by obtain ⟨A, c, B, d, rfl, _⟩ := h; rfl
  one h := by obtain ⟨A, c, B, d, rfl, _⟩ := h; simp [one', Value.oneCell']
  mono h hh := by obtain ⟨A, c, B, d, rfl, q, q'⟩ := h; exact ⟨A, c, B, d, rfl, q.mono hh, q'.mono hh⟩
theorem ok_da {L : Mem} {x : Da} {cs : List Value} (q : Rep.ok L x cs) : ∃ A c B d, cs = [.int .i64 x.st, .slice A x.ac.length c, .slice B x.nx.length d] ∧ SlOk L A c x.ac ∧ SlOk L B d x.nx := q

/-! literals -/
theorem Arr.one {α : Type} [Sc α] (b : Nat) (T : TypeId) (xs : List α) : Arr (V.one b (.cells (xs.map Sc.enc).toArray T)) b T xs := one_self _ _
theorem lit_rep1 {α : Type} [Rep α] {L : Mem} {b : Nat} {T : TypeId} {cs : List Value} (x : α) (hb : L b (.cells cs.toArray T (0, 0))) (hx : Rep.ok L x cs) : SlOk L (some ⟨b, 0, none⟩) 1 [x] := by
  refine ⟨by simp, by simp [maxLen], by simp, .inr ⟨b, 0, _, T, _, rfl, hb, fun i y hi => ?_⟩⟩
  cases i with
  | zero => simp at hi; subst hi; exact ⟨cs, hx, fun j hj => by simp⟩
  | succ i => simp at hi
theorem lit_rep2 {α : Type} [Rep α] {L : Mem} {b : Nat} {T : TypeId} {cs ds es : List Value} (x y : α) (hb : L b (.cells es.toArray T (0, 0))) (he : es = cs ++ ds) (hx : Rep.ok L x cs) (hy : Rep.ok L y ds) : SlOk L (some ⟨b, 0, none⟩) 2 [x, y] := by
  subst he
  have h1 := Rep.len hx
  have h2 := Rep.len hy
  refine ⟨by simp, by simp [maxLen], by simp, .inr ⟨b, 0, _, T, _, rfl, hb, fun i z hi => ?_⟩⟩
  match i, hi with
  | 0, hi => simp at hi; subst hi; exact ⟨cs, hx, fun j hj => by simp; rw [List.getElem?_append_left (by omega)]⟩
  | 1, hi => simp at hi; subst hi; exact ⟨ds, hy, fun j hj => by simp; rw [List.getElem?_append_right (by omega)]; congr 1; omega⟩
  | i + 2, hi => simp at hi
theorem lk_head {b : Nat} {o : Obj} {Γ : Ctx} : lk (V.one b o :: Γ) b o := ⟨_, List.mem_cons_self .., one_self _ _⟩
theorem lk_tail {b : Nat} {o : Obj} {g : PH} {Γ : Ctx} (h : lk Γ b o) : lk (g :: Γ) b o := by obtain ⟨x, hx, q⟩ := h; exact ⟨x, List.mem_cons_of_mem _ hx, q⟩

/-- what a row of scalars is -/
theorem Bld.sc {α : Type} [Sc α] {g : PH} {L : Mem} {e : TypeId} {A : Option Addr} {n c : Nat} {xs : List α} (h : Bld g L e (.slice A n c) xs) : n = xs.length ∧ (xs = [] ∨ ∃ b o cap cur, A = some ⟨b, o, none⟩ ∧ c = cap + 1 ∧ n ≤ cap + 1 ∧ cap + 1 ≤ maxLen ∧ g b = some (.cells cur e (0, 0)) ∧ o + (cap + 1) ≤ cur.size ∧ (cur.toList.drop o).take xs.length = xs.map Sc.enc) := by
  obtain ⟨cs, ⟨h1, h2⟩, h3⟩ := h
  have hcs : cs = xs.map Sc.enc := by
    apply List.ext_getElem?
    intro i
    have hl : cs.length = xs.length := by simpa [Rep.sz] using h1
    by_cases hi : i < xs.length
    · obtain ⟨c', q1, q2⟩ := h3 i xs[i] (List.getElem?_eq_getElem hi)
      have q1 := ok_sc q1
      subst q1
      have := q2 0 (by simp [Rep.sz])
      simpa [Rep.sz, hi] using this
    · rw [List.getElem?_eq_none (by omega), List.getElem?_eq_none (by simp; omega)]
  rcases h2 with ⟨q0, A', q⟩ | ⟨b, o, cap, cur, q1, q2, q3, q4, q5, q6⟩
  · simp only [Value.slice.injEq] at q
    exact ⟨by omega, .inl (List.eq_nil_of_length_eq_zero q0)⟩
  · simp only [Value.slice.injEq] at q1
    obtain ⟨rfl, rfl, rfl⟩ := q1
    exact ⟨rfl, .inr ⟨b, o, cap, cur, rfl, rfl, q2, q3, q4, by simpa [Rep.sz] using q5, by rw [← hcs, ← q6]; simp [Rep.sz]⟩⟩
section
variable {P : Program} {Γr : Ctx} {d : Option Nat} {r : List SOper} {φ : Fr} {Γ : Ctx} {K : Fr → Ctx → Prop}
/-- xs[i] = x, xs a row -/
theorem s_storeB {α : Type} [Sc α] {g : PH} {L : Mem} {e : TypeId} {b o n c ix : Nat} {xs : List α} (x : α) {i : Nat} (hg : Γ[ix]? = some g) (h : Bld g L e (.slice (some ⟨b, o, none⟩) n c) xs) (hi : i < xs.length)
    (hk : ∀ g', Bld g' L e (.slice (some ⟨b, o, none⟩) n c) (xs.set i x) → (∀ k, k ≠ b → g' k = g k) → vcOps P Γr r φ (Γ.set ix g') K) : storeP P Γr r φ Γ K 1 b (o + i) (Sc.enc x) := by
  obtain ⟨hn, hh⟩ := h.sc
  rcases hh with rfl | ⟨b', o', cap, cur, hA, rfl, h1, h2, h3, h4, h5⟩
  · simp at hi
  simp only [Option.some.injEq, Addr.mk.injEq, and_true] at hA
  obtain ⟨rfl, rfl⟩ := hA
  refine ⟨ix, g, cur, e, hg, h3, by omega, ?_⟩
  refine hk _ ⟨(xs.set i x).map Sc.enc, ⟨by simp [Rep.sz], .inr ⟨b, o, cap, _, by rw [List.length_set, ← hn], by simp; omega, h2, upd_self _ _ _, ?_, ?_⟩⟩, fun j y hj => ⟨[Sc.enc y], rfl, fun m hm => ?_⟩⟩ (fun k hne => upd_other hne)
  · simp only [Rep.sz, Nat.mul_one, List.size_toArray, setC, Sc.cells, List.length_append, List.length_take, List.length_drop, Array.length_toList, List.length_singleton]
    omega
  · simp only [Rep.sz, Nat.mul_one, setC, Sc.cells, List.length_set]
    rw [List.map_set, ← h5]
    apply List.ext_getElem?
    intro j
    rw [List.getElem?_take, List.getElem?_set]
    by_cases hj : j < xs.length
    · rw [if_pos hj, List.getElem?_drop, List.append_assoc]
      by_cases e : i = j
      · subst e
        rw [if_pos rfl, if_pos (by rw [h5]; simpa using hi)]
        rw [List.getElem?_append_right (by simp; omega)]
        simp
        have : o + i - min (o + i) cur.size = 0 := by omega
        simp [this]
      · rw [if_neg e, List.getElem?_take, if_pos hj, List.getElem?_drop]
        by_cases hlt : j < i
        · rw [List.getElem?_append_left (by simp; omega), List.getElem?_take, if_pos (by omega)]
        · rw [List.getElem?_append_right (by simp; omega), List.getElem?_append_right (by simp; omega), List.getElem?_drop]
          congr 1
          simp
          omega
    · rw [if_neg hj]
      have hne : ¬ i = j := by omega
      rw [if_neg hne, List.getElem?_take, if_neg hj]
  · have : m = 0 := by simp [Rep.sz] at hm; exact hm
    subst this
    simp only [Rep.sz, Nat.mul_one, Nat.add_zero, List.getElem?_map, hj]
    rfl
end

end Go.Proofs.Ytniobbepliknmaa.V
/- Arguments that are grammars and automata, read; no condition. -/
namespace Go.Proofs.Ytniobbepliknmaa.V
open Go Go.ChangeShapes Go.RowKit
set_option linter.unusedVariables false
open Meas (meas)

/-- a struct with these fields: where they lie and of what type -/
def structIs (P : Program) (t : TypeId) (l : List (Nat × TypeId)) : Bool := match P.underlying t with
  | some (.struct fs) => fs.toList.map (fun f => (f.offset, f.type)) == l
  | _ => false
theorem structIs_some {P : Program} {t : TypeId} {l : List (Nat × TypeId)} (h : structIs P t l = true) : ∃ fs : Array Field, P.underlying t = some (.struct fs) ∧ fs.toList.map (fun f => (f.offset, f.type)) = l := by
  unfold structIs at h
  split at h
  · rename_i fs hu
    exact ⟨fs, hu, by simpa using h⟩
  · cases h
theorem trod_fields {P : Program} {t : TypeId} {l : List (Nat × TypeId)} (ht : structIs P t l = true) {H : Type} {enc : TypeId × Value → H} {w : World} {fuel : Nat} {cs : List Value} {x : DataW H × List MemPlace}
    (hx : DataW.trod enc P w 0 (fun _ => true) true fuel t cs = some x) :
    ∃ (xs : List (DataW H × List MemPlace)) (n : Nat), fuel = n + 1 ∧ x.1 = .agg (xs.map (·.1)) ∧ cs.length = P.cellsOf t ∧ xs.length = l.length ∧
      ∀ (i o : Nat) (ty : TypeId), l[i]? = some (o, ty) → DataW.trod enc P w 0 (fun _ => true) true n ty ((cs.drop o).take (P.cellsOf ty)) = xs[i]? := by
  obtain ⟨fs, hu, hl⟩ := structIs_some ht
  obtain ⟨xs, n, h0, rfl, h1, h2, h3⟩ := DataW.trod_struct hu hx
  refine ⟨xs, n, h0, rfl, h1, by rw [← hl, h2]; simp, fun i o ty hi => ?_⟩
  rw [← hl, List.getElem?_map, Option.map_eq_some_iff] at hi
  obtain ⟨f, hf, e⟩ := hi
  simp only [Prod.mk.injEq] at e
  obtain ⟨rfl, rfl⟩ := e
  exact h3 i f (by simpa using hf)
instance : Meas Sy := ⟨fun _ => 3⟩
instance : Meas Ru := ⟨fun r => measL r.r + 3⟩
instance : Meas Gr := ⟨fun g => measL g.rs + 5⟩
instance : Meas Da := ⟨fun d => measL d.ac + measL d.nx + 4⟩

theorem reads_da {P : Program} {t ti tl tn : TypeId} (ht : structIs P t [(0, ti), (1, tl), (2, tn)] = true) (hc : P.cellsOf t = 3) (hi : P.underlying ti = some (.int .i64)) (hci : P.cellsOf ti = 1) (hcl : P.cellsOf tl = 1) (hcn : P.cellsOf tn = 1) (hl' : Reads P (List Int) tl) (hn' : Reads P (List (List Int)) tn) : Reads P Da t := by
  intro H enc w fuel cs x hx hbulk
  obtain ⟨xs, n, rfl, hx1, hl, hxl, hf⟩ := trod_fields ht hx
  rw [hc] at hl
  rw [hx1] at hbulk ⊢
  match xs, hxl, cs, hl with
  | [y0, y1, y2], _, [c0, c1, c2], _ =>
    have h0 := hf 0 0 ti rfl
    have h1 := hf 1 1 tl rfl
    have h2 := hf 2 2 tn rfl
    rw [hci] at h0
    rw [hcl] at h1
    rw [hcn] at h2
    obtain ⟨m0, e0, q0, _⟩ := DataW.trod_int hi h0
    simp only [List.map_cons, List.map_nil, Rows.uptoBulk, Rows.uptoBulkAll] at hbulk
    obtain ⟨ls, h4, h5⟩ := hl' H enc w n _ _ h1 (by omega)
    obtain ⟨ns, h6, h7⟩ := hn' H enc w n _ _ h2 (by omega)
    obtain ⟨A, c, e1, h8⟩ := h4
    obtain ⟨B, d, e2, h9⟩ := h6
    simp at e0 e1 e2
    subst e0 e1 e2
    refine ⟨⟨m0, ls, ns⟩, ⟨A, c, B, d, rfl, h8, h9⟩, ?_⟩
    rw [q0]
    simp only [meas, List.map_cons, List.map_nil, Rows.uptoBulk, Rows.uptoBulkAll] at h5 h7 ⊢
    omega
def isStruct (P : Program) (t : TypeId) : Bool := match P.underlying t with
  | some (.struct _) => true
  | _ => false
theorem arg_st {P : Program} {t : TypeId} {α : Type} [Rep α] [Meas α] (ht : isStruct P t = true) (hr : Reads P α t) {r : Reach} {b0 : Nat} {w : World} {v : Value} {H : Type} {enc : TypeId × Value → H} {d : DataW H} {p : List MemPlace}
    (hval : Value.okWide P w r b0 t v) (hd : DataW.Trod enc P w 0 (fun _ => true) true t v d p) (hb : Rows.uptoBulk d ≤ 1048576) :
    ∃ (x : α) (cs : List Value), v = .agg cs.toArray ∧ Rep.ok (lk [phOf w]) x cs ∧ meas x ≤ Rows.uptoBulk d := by
  unfold isStruct at ht
  split at ht
  · rename_i fs hu
    exact arg_agg hu hr hval hd hb
  · cases ht
theorem try_ints : Reads Try.prog (List Int) 29 := reads_list (e := 3) (by kernel_rfl) (by kernel_rfl) (by decide) (reads_int (by kernel_rfl))
theorem try_intss : Reads Try.prog (List (List Int)) 65 := reads_list (e := 29) (by kernel_rfl) (by kernel_rfl) (by decide) try_ints
theorem try_da : Reads Try.prog Da 67 := reads_da (ti := 3) (tl := 29) (tn := 65) (by kernel_rfl) (by kernel_rfl) (by kernel_rfl) (by kernel_rfl) (by kernel_rfl) (by kernel_rfl) try_ints try_intss
end Go.Proofs.Ytniobbepliknmaa.V
