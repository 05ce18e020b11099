/- Texts put together, in the order in which they build; each says what it proves; no condition. -/
import Derived.Test.YtniobbepliknmaaM2
namespace Go.Proofs.Ytniobbepliknmaa.V
open Go
set_option linter.unusedVariables false
set_option linter.unusedSimpArgs false
/- Data of this program: symbols, rules, grammars, automata; literals that are made; no condition. -/
structure Sy where
  t : Bool
  n : Int
  deriving DecidableEq
structure Ru where
  l : Int
  r : List Sy
  deriving DecidableEq
structure Gr where
  ts : Int
  ns : Int
  st : Int
  rs : List Ru
  deriving DecidableEq
structure Da where
  st : Int
  ac : List Int
  nx : List (List Int)
  deriving DecidableEq
instance : Rep Sy where
  sz := 2
  ok _ x cs := cs = [.bool x.t, .int .i64 x.n]
  len h := by subst h; rfl
  one h := by subst h; simp [one', Value.oneCell']
  mono h _ := h
instance : Rep Ru where
  sz := 2
  ok L x cs := ∃ A c, cs = [.int .i64 x.l, .slice A x.r.length c] ∧ SlOk L A c x.r
  len h := by obtain ⟨A, c, rfl, _⟩ := h; rfl
  one h := by obtain ⟨A, c, rfl, _⟩ := h; simp [one', Value.oneCell']
  mono h hh := by obtain ⟨A, c, rfl, q⟩ := h; exact ⟨A, c, rfl, q.mono hh⟩
instance : Rep Gr where
  sz := 4
  ok L x cs := ∃ A c, cs = [.int .i64 x.ts, .int .i64 x.ns, .int .i64 x.st, .slice A x.rs.length c] ∧ SlOk L A c x.rs
  len h := by obtain ⟨A, c, rfl, _⟩ := h; rfl
  one h := by obtain ⟨A, c, rfl, _⟩ := h; simp [one', Value.oneCell']
  mono h hh := by obtain ⟨A, c, rfl, q⟩ := h; exact ⟨A, c, rfl, q.mono hh⟩
instance : Rep Da where
  sz := 3
  ok L x cs := ∃ A c B d, cs = [.int .i64 x.st, .slice A x.ac.length c, .slice B x.nx.length d] ∧ SlOk L A c x.ac ∧ SlOk L B d x.nx
  len h := by obtain ⟨A, c, B, d, rfl, _⟩ := h; rfl
  one h := by obtain ⟨A, c, B, d, rfl, _⟩ := h; simp [one', Value.oneCell']
  mono h hh := by obtain ⟨A, c, B, d, rfl, q, q'⟩ := h; exact ⟨A, c, B, d, rfl, q.mono hh, q'.mono hh⟩
theorem ok_sy {L : Mem} {x : Sy} {cs : List Value} (q : Rep.ok L x cs) : cs = [.bool x.t, .int .i64 x.n] := q
theorem ok_ru {L : Mem} {x : Ru} {cs : List Value} (q : Rep.ok L x cs) : ∃ A c, cs = [.int .i64 x.l, .slice A x.r.length c] ∧ SlOk L A c x.r := q
theorem ok_gr {L : Mem} {x : Gr} {cs : List Value} (q : Rep.ok L x cs) : ∃ A c, cs = [.int .i64 x.ts, .int .i64 x.ns, .int .i64 x.st, .slice A x.rs.length c] ∧ SlOk L A c x.rs := q
theorem SlOk.sy {L : Mem} {A : Option Addr} {c : Nat} {xs : List Sy} (q : SlOk L A c xs) {i : Nat} (hi : i < xs.length) :
    ∃ b o, A = some ⟨b, o, none⟩ ∧ ∀ Γ : Ctx, Mem.le L (lk Γ) → Cells Γ b (o + i * 2) [.bool xs[i].t, .int .i64 xs[i].n] := by
  obtain ⟨b, o, hA, cs, h1, h2⟩ := q.get hi
  obtain rfl := ok_sy h1
  exact ⟨b, o, hA, h2⟩
theorem SlOk.ru {L : Mem} {A : Option Addr} {c : Nat} {xs : List Ru} (q : SlOk L A c xs) {i : Nat} (hi : i < xs.length) :
    ∃ b o, A = some ⟨b, o, none⟩ ∧ ∃ A' c', SlOk L A' c' xs[i].r ∧ ∀ Γ : Ctx, Mem.le L (lk Γ) → Cells Γ b (o + i * 2) [.int .i64 xs[i].l, .slice A' xs[i].r.length c'] := by
  obtain ⟨b, o, hA, cs, h1, h2⟩ := q.get hi
  obtain ⟨A', c', rfl, h3⟩ := ok_ru h1
  exact ⟨b, o, hA, A', c', h3, h2⟩

/-! literals -/
theorem Arr.one {α : Type} [Sc α] (b : Nat) (T : TypeId) (xs : List α) : Arr (V.one b (.cells (xs.map Sc.enc).toArray T)) b T xs := one_self _ _
theorem lit_rep1 {α : Type} [Rep α] {L : Mem} {b : Nat} {T : TypeId} {cs : List Value} (x : α) (hb : L b (.cells cs.toArray T (0, 0))) (hx : Rep.ok L x cs) : SlOk L (some ⟨b, 0, none⟩) 1 [x] := by
  refine ⟨by simp, by simp [maxLen], by simp, .inr ⟨b, 0, _, T, _, rfl, hb, fun i y hi => ?_⟩⟩
  cases i with
  | zero => simp at hi; subst hi; exact ⟨cs, hx, fun j hj => by simp⟩
  | succ i => simp at hi
theorem lit_rep2 {α : Type} [Rep α] {L : Mem} {b : Nat} {T : TypeId} {cs ds es : List Value} (x y : α) (hb : L b (.cells es.toArray T (0, 0))) (he : es = cs ++ ds) (hx : Rep.ok L x cs) (hy : Rep.ok L y ds) : SlOk L (some ⟨b, 0, none⟩) 2 [x, y] := by
  subst he
  have h1 := Rep.len hx
  have h2 := Rep.len hy
  refine ⟨by simp, by simp [maxLen], by simp, .inr ⟨b, 0, _, T, _, rfl, hb, fun i z hi => ?_⟩⟩
  match i, hi with
  | 0, hi => simp at hi; subst hi; exact ⟨cs, hx, fun j hj => by simp; rw [List.getElem?_append_left (by omega)]⟩
  | 1, hi => simp at hi; subst hi; exact ⟨ds, hy, fun j hj => by simp; rw [List.getElem?_append_right (by omega)]; congr 1; omega⟩
  | i + 2, hi => simp at hi
theorem lk_head {b : Nat} {o : Obj} {Γ : Ctx} : lk (V.one b o :: Γ) b o := ⟨_, List.mem_cons_self .., one_self _ _⟩
theorem lk_tail {b : Nat} {o : Obj} {g : PH} {Γ : Ctx} (h : lk Γ b o) : lk (g :: Γ) b o := by obtain ⟨x, hx, q⟩ := h; exact ⟨x, List.mem_cons_of_mem _ hx, q⟩

section
variable {P : Program} {Γr : Ctx} {d : Option Nat} {r : List SOper} {φ : Fr} {Γ : Ctx} {K : Fr → Ctx → Prop}
end

end Go.Proofs.Ytniobbepliknmaa.V
/- Arguments that are grammars and automata, read; no condition. -/
namespace Go.Proofs.Ytniobbepliknmaa.V
open Go Go.ChangeShapes Go.RowKit
set_option linter.unusedVariables false
open Meas (meas)

/-- a struct with these fields: where they lie and of what type -/
def structIs (P : Program) (t : TypeId) (l : List (Nat × TypeId)) : Bool := match P.underlying t with
  | some (.struct fs) => fs.toList.map (fun f => (f.offset, f.type)) == l
  | _ => false
theorem structIs_some {P : Program} {t : TypeId} {l : List (Nat × TypeId)} (h : structIs P t l = true) : ∃ fs : Array Field, P.underlying t = some (.struct fs) ∧ fs.toList.map (fun f => (f.offset, f.type)) = l := by
  unfold structIs at h
  split at h
  · rename_i fs hu
    exact ⟨fs, hu, by simpa using h⟩
  · cases h
theorem trod_fields {P : Program} {t : TypeId} {l : List (Nat × TypeId)} (ht : structIs P t l = true) {H : Type} {enc : TypeId × Value → H} {w : World} {fuel : Nat} {cs : List Value} {x : DataW H × List MemPlace}
    (hx : DataW.trod enc P w 0 (fun _ => true) true fuel t cs = some x) :
    ∃ (xs : List (DataW H × List MemPlace)) (n : Nat), fuel = n + 1 ∧ x.1 = .agg (xs.map (·.1)) ∧ cs.length = P.cellsOf t ∧ xs.length = l.length ∧
      ∀ (i o : Nat) (ty : TypeId), l[i]? = some (o, ty) → DataW.trod enc P w 0 (fun _ => true) true n ty ((cs.drop o).take (P.cellsOf ty)) = xs[i]? := by
  obtain ⟨fs, hu, hl⟩ := structIs_some ht
  obtain ⟨xs, n, h0, rfl, h1, h2, h3⟩ := DataW.trod_struct hu hx
  refine ⟨xs, n, h0, rfl, h1, by rw [← hl, h2]; simp, fun i o ty hi => ?_⟩
  rw [← hl, List.getElem?_map, Option.map_eq_some_iff] at hi
  obtain ⟨f, hf, e⟩ := hi
  simp only [Prod.mk.injEq] at e
  obtain ⟨rfl, rfl⟩ := e
  exact h3 i f (by simpa using hf)
instance : Meas Sy := ⟨fun _ => 3⟩
instance : Meas Ru := ⟨fun r => measL r.r + 3⟩
instance : Meas Gr := ⟨fun g => measL g.rs + 5⟩
instance : Meas Da := ⟨fun d => measL d.ac + measL d.nx + 4⟩

theorem reads_sy {P : Program} {t tb ti : TypeId} (ht : structIs P t [(0, tb), (1, ti)] = true) (hc : P.cellsOf t = 2) (hb : P.underlying tb = some .bool) (hi : P.underlying ti = some (.int .i64)) (hcb : P.cellsOf tb = 1) (hci : P.cellsOf ti = 1) : Reads P Sy t := by
  intro H enc w fuel cs x hx hbulk
  obtain ⟨xs, n, rfl, hx1, hl, hxl, hf⟩ := trod_fields ht hx
  rw [hc] at hl
  match xs, hxl, cs, hl with
  | [y0, y1], _, [c0, c1], _ =>
    have h0 := hf 0 0 tb rfl
    have h1 := hf 1 1 ti rfl
    rw [hcb] at h0
    rw [hci] at h1
    obtain ⟨b, e0, q0⟩ := DataW.trod_bool hb h0
    obtain ⟨m, e1, q1, _⟩ := DataW.trod_int hi h1
    simp at e0 e1
    subst e0 e1
    refine ⟨⟨b, m⟩, rfl, ?_⟩
    rw [hx1, q0, q1]
    simp [meas, Rows.uptoBulk, Rows.uptoBulkAll]
theorem reads_ru {P : Program} {t ti tl : TypeId} (ht : structIs P t [(0, ti), (1, tl)] = true) (hc : P.cellsOf t = 2) (hi : P.underlying ti = some (.int .i64)) (hci : P.cellsOf ti = 1) (hcl : P.cellsOf tl = 1) (hl' : Reads P (List Sy) tl) : Reads P Ru t := by
  intro H enc w fuel cs x hx hbulk
  obtain ⟨xs, n, rfl, hx1, hl, hxl, hf⟩ := trod_fields ht hx
  rw [hc] at hl
  rw [hx1] at hbulk ⊢
  match xs, hxl, cs, hl with
  | [y0, y1], _, [c0, c1], _ =>
    have h0 := hf 0 0 ti rfl
    have h1 := hf 1 1 tl rfl
    rw [hci] at h0
    rw [hcl] at h1
    obtain ⟨m, e0, q0, _⟩ := DataW.trod_int hi h0
    simp only [List.map_cons, List.map_nil, Rows.uptoBulk, Rows.uptoBulkAll] at hbulk
    obtain ⟨ls, h2, h3⟩ := hl' H enc w n _ _ h1 (by omega)
    obtain ⟨A, c, e1, h4⟩ := h2
    simp at e0 e1
    subst e0 e1
    refine ⟨⟨m, ls⟩, ⟨A, c, rfl, h4⟩, ?_⟩
    rw [q0]
    simp only [meas, List.map_cons, List.map_nil, Rows.uptoBulk, Rows.uptoBulkAll] at h3 ⊢
    omega
theorem reads_gr {P : Program} {t ti tl : TypeId} (ht : structIs P t [(0, ti), (1, ti), (2, ti), (3, tl)] = true) (hc : P.cellsOf t = 4) (hi : P.underlying ti = some (.int .i64)) (hci : P.cellsOf ti = 1) (hcl : P.cellsOf tl = 1) (hl' : Reads P (List Ru) tl) : Reads P Gr t := by
  intro H enc w fuel cs x hx hbulk
  obtain ⟨xs, n, rfl, hx1, hl, hxl, hf⟩ := trod_fields ht hx
  rw [hc] at hl
  rw [hx1] at hbulk ⊢
  match xs, hxl, cs, hl with
  | [y0, y1, y2, y3], _, [c0, c1, c2, c3], _ =>
    have h0 := hf 0 0 ti rfl
    have h1 := hf 1 1 ti rfl
    have h2 := hf 2 2 ti rfl
    have h3 := hf 3 3 tl rfl
    rw [hci] at h0 h1 h2
    rw [hcl] at h3
    obtain ⟨m0, e0, q0, _⟩ := DataW.trod_int hi h0
    obtain ⟨m1, e1, q1, _⟩ := DataW.trod_int hi h1
    obtain ⟨m2, e2, q2, _⟩ := DataW.trod_int hi h2
    simp only [List.map_cons, List.map_nil, Rows.uptoBulk, Rows.uptoBulkAll] at hbulk
    obtain ⟨ls, h4, h5⟩ := hl' H enc w n _ _ h3 (by omega)
    obtain ⟨A, c, e3, h6⟩ := h4
    simp at e0 e1 e2 e3
    subst e0 e1 e2 e3
    refine ⟨⟨m0, m1, m2, ls⟩, ⟨A, c, rfl, h6⟩, ?_⟩
    rw [q0, q1, q2]
    simp only [meas, List.map_cons, List.map_nil, Rows.uptoBulk, Rows.uptoBulkAll] at h5 ⊢
    omega
def isStruct (P : Program) (t : TypeId) : Bool := match P.underlying t with
  | some (.struct _) => true
  | _ => false
theorem arg_st {P : Program} {t : TypeId} {α : Type} [Rep α] [Meas α] (ht : isStruct P t = true) (hr : Reads P α t) {r : Reach} {b0 : Nat} {w : World} {v : Value} {H : Type} {enc : TypeId × Value → H} {d : DataW H} {p : List MemPlace}
    (hval : Value.okWide P w r b0 t v) (hd : DataW.Trod enc P w 0 (fun _ => true) true t v d p) (hb : Rows.uptoBulk d ≤ 1048576) :
    ∃ (x : α) (cs : List Value), v = .agg cs.toArray ∧ Rep.ok (lk [phOf w]) x cs ∧ meas x ≤ Rows.uptoBulk d := by
  unfold isStruct at ht
  split at ht
  · rename_i fs hu
    exact arg_agg hu hr hval hd hb
  · cases ht
theorem try_sys : Reads Try.prog (List Sy) 35 := reads_list (e := 39) (by kernel_rfl) (by kernel_rfl) (by decide) (reads_sy (tb := 4) (ti := 3) (by kernel_rfl) (by kernel_rfl) (by kernel_rfl) (by kernel_rfl) (by kernel_rfl) (by kernel_rfl))
theorem try_rus : Reads Try.prog (List Ru) 32 := reads_list (e := 37) (by kernel_rfl) (by kernel_rfl) (by decide) (reads_ru (ti := 3) (tl := 35) (by kernel_rfl) (by kernel_rfl) (by kernel_rfl) (by kernel_rfl) (by kernel_rfl) try_sys)
theorem try_gr : Reads Try.prog Gr 57 := reads_gr (ti := 3) (tl := 32) (by kernel_rfl) (by kernel_rfl) (by kernel_rfl) (by kernel_rfl) (by kernel_rfl) try_rus
end Go.Proofs.Ytniobbepliknmaa.V
