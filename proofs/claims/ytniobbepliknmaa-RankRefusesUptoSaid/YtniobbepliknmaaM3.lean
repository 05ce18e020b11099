/- Arguments that are grammars and automata, read; no condition. -/
import Derived.Test.YtniobbepliknmaaM2
namespace Go.Proofs.Ytniobbepliknmaa.V
open Go Go.ChangeShapes Go.RowKit
set_option linter.unusedVariables false
open Meas (meas)

/-- a struct with these fields: where they lie and of what type -/
def structIs (P : Program) (t : TypeId) (l : List (Nat × TypeId)) : Bool := match P.underlying t with
  | some (.struct fs) => fs.toList.map (fun f => (f.offset, f.type)) == l
  | _ => false
theorem structIs_some {P : Program} {t : TypeId} {l : List (Nat × TypeId)} (h : structIs P t l = true) : ∃ fs : Array Field, P.underlying t = some (.struct fs) ∧ fs.toList.map (fun f => (f.offset, f.type)) = l := by
  unfold structIs at h
  split at h
  · rename_i fs hu
    exact ⟨fs, hu, by simpa using h⟩
  · cases h
theorem trod_fields {P : Program} {t : TypeId} {l : List (Nat × TypeId)} (ht : structIs P t l = true) {H : Type} {enc : TypeId × Value → H} {w : World} {fuel : Nat} {cs : List Value} {x : DataW H × List MemPlace}
    (hx : DataW.trod enc P w 0 (fun _ => true) true fuel t cs = some x) :
    ∃ (xs : List (DataW H × List MemPlace)) (n : Nat), fuel = n + 1 ∧ x.1 = .agg (xs.map (·.1)) ∧ cs.length = P.cellsOf t ∧ xs.length = l.length ∧
      ∀ (i o : Nat) (ty : TypeId), l[i]? = some (o, ty) → DataW.trod enc P w 0 (fun _ => true) true n ty ((cs.drop o).take (P.cellsOf ty)) = xs[i]? := by
  obtain ⟨fs, hu, hl⟩ := structIs_some ht
  obtain ⟨xs, n, h0, rfl, h1, h2, h3⟩ := DataW.trod_struct hu hx
  refine ⟨xs, n, h0, rfl, h1, by rw [← hl, h2]; simp, fun i o ty hi => ?_⟩
  rw [← hl, List.getElem?_map, Option.map_eq_some_iff] at hi
  obtain ⟨f, hf, e⟩ := hi
  simp only [Prod.mk.injEq] at e
  obtain ⟨rfl, rfl⟩ := e
  exact h3 i f (by simpa using hf)
instance : Meas Sy := ⟨fun _ => 3⟩
instance : Meas Ru := ⟨fun r => measL r.r + 3⟩
instance : Meas Gr := ⟨fun g => measL g.rs + 5⟩
instance : Meas Da := ⟨fun d => measL d.ac + measL d.nx + 4⟩

theorem reads_sy {P : Program} {t tb ti : TypeId} (ht : structIs P t [(0, tb), (1, ti)] = true) (hc : P.cellsOf t = 2) (hb : P.underlying tb = some .bool) (hi : P.underlying ti = some (.int .i64)) (hcb : P.cellsOf tb = 1) (hci : P.cellsOf ti = 1) : Reads P Sy t := by
  intro H enc w fuel cs x hx hbulk
  obtain ⟨xs, n, rfl, hx1, hl, hxl, hf⟩ := trod_fields ht hx
  rw [hc] at hl
  match xs, hxl, cs, hl with
  | [y0, y1], _, [c0, c1], _ =>
    have h0 := hf 0 0 tb rfl
    have h1 := hf 1 1 ti rfl
    rw [hcb] at h0
    rw [hci] at h1
    obtain ⟨b, e0, q0⟩ := DataW.trod_bool hb h0
    obtain ⟨m, e1, q1, _⟩ := DataW.trod_int hi h1
    simp at e0 e1
    subst e0 e1
    refine ⟨⟨b, m⟩, rfl, ?_⟩
    rw [hx1, q0, q1]
    simp [meas, Rows.uptoBulk, Rows.uptoBulkAll]
theorem reads_ru {P : Program} {t ti tl : TypeId} (ht : structIs P t [(0, ti), (1, tl)] = true) (hc : P.cellsOf t = 2) (hi : P.underlying ti = some (.int .i64)) (hci : P.cellsOf ti = 1) (hcl : P.cellsOf tl = 1) (hl' : Reads P (List Sy) tl) : Reads P Ru t := by
  intro H enc w fuel cs x hx hbulk
  obtain ⟨xs, n, rfl, hx1, hl, hxl, hf⟩ := trod_fields ht hx
  rw [hc] at hl
  rw [hx1] at hbulk ⊢
  match xs, hxl, cs, hl with
  | [y0, y1], _, [c0, c1], _ =>
    have h0 := hf 0 0 ti rfl
    have h1 := hf 1 1 tl rfl
    rw [hci] at h0
    rw [hcl] at h1
    obtain ⟨m, e0, q0, _⟩ := DataW.trod_int hi h0
    simp only [List.map_cons, List.map_nil, Rows.uptoBulk, Rows.uptoBulkAll] at hbulk
    obtain ⟨ls, h2, h3⟩ := hl' H enc w n _ _ h1 (by omega)
    obtain ⟨A, c, e1, h4⟩ := h2
    simp at e0 e1
    subst e0 e1
    refine ⟨⟨m, ls⟩, ⟨A, c, rfl, h4⟩, ?_⟩
    rw [q0]
    simp only [meas, List.map_cons, List.map_nil, Rows.uptoBulk, Rows.uptoBulkAll] at h3 ⊢
    omega
theorem reads_gr {P : Program} {t ti tl : TypeId} (ht : structIs P t [(0, ti), (1, ti), (2, ti), (3, tl)] = true) (hc : P.cellsOf t = 4) (hi : P.underlying ti = some (.int .i64)) (hci : P.cellsOf ti = 1) (hcl : P.cellsOf tl = 1) (hl' : Reads P (List Ru) tl) : Reads P Gr t := by
  intro H enc w fuel cs x hx hbulk
  obtain ⟨xs, n, rfl, hx1, hl, hxl, hf⟩ := trod_fields ht hx
  rw [hc] at hl
  rw [hx1] at hbulk ⊢
  match xs, hxl, cs, hl with
  | [y0, y1, y2, y3], _, [c0, c1, c2, c3], _ =>
    have h0 := hf 0 0 ti rfl
    have h1 := hf 1 1 ti rfl
    have h2 := hf 2 2 ti rfl
    have h3 := hf 3 3 tl rfl
    rw [hci] at h0 h1 h2
    rw [hcl] at h3
    obtain ⟨m0, e0, q0, _⟩ := DataW.trod_int hi h0
    obtain ⟨m1, e1, q1, _⟩ := DataW.trod_int hi h1
    obtain ⟨m2, e2, q2, _⟩ := DataW.trod_int hi h2
    simp only [List.map_cons, List.map_nil, Rows.uptoBulk, Rows.uptoBulkAll] at hbulk
    obtain ⟨ls, h4, h5⟩ := hl' H enc w n _ _ h3 (by omega)
    obtain ⟨A, c, e3, h6⟩ := h4
    simp at e0 e1 e2 e3
    subst e0 e1 e2 e3
    refine ⟨⟨m0, m1, m2, ls⟩, ⟨A, c, rfl, h6⟩, ?_⟩
    rw [q0, q1, q2]
    simp only [meas, List.map_cons, List.map_nil, Rows.uptoBulk, Rows.uptoBulkAll] at h5 ⊢
    omega
def isStruct (P : Program) (t : TypeId) : Bool := match P.underlying t with
  | some (.struct _) => true
  | _ => false
theorem arg_st {P : Program} {t : TypeId} {α : Type} [Rep α] [Meas α] (ht : isStruct P t = true) (hr : Reads P α t) {r : Reach} {b0 : Nat} {w : World} {v : Value} {H : Type} {enc : TypeId × Value → H} {d : DataW H} {p : List MemPlace}
    (hval : Value.okWide P w r b0 t v) (hd : DataW.Trod enc P w 0 (fun _ => true) true t v d p) (hb : Rows.uptoBulk d ≤ 1048576) :
    ∃ (x : α) (cs : List Value), v = .agg cs.toArray ∧ Rep.ok (lk [phOf w]) x cs ∧ meas x ≤ Rows.uptoBulk d := by
  unfold isStruct at ht
  split at ht
  · rename_i fs hu
    exact arg_agg hu hr hval hd hb
  · cases ht
theorem try_sys : Reads Try.prog (List Sy) 35 := reads_list (e := 39) (by kernel_rfl) (by kernel_rfl) (by decide) (reads_sy (tb := 4) (ti := 3) (by kernel_rfl) (by kernel_rfl) (by kernel_rfl) (by kernel_rfl) (by kernel_rfl) (by kernel_rfl))
theorem try_rus : Reads Try.prog (List Ru) 32 := reads_list (e := 37) (by kernel_rfl) (by kernel_rfl) (by decide) (reads_ru (ti := 3) (tl := 35) (by kernel_rfl) (by kernel_rfl) (by kernel_rfl) (by kernel_rfl) (by kernel_rfl) try_sys)
theorem try_gr : Reads Try.prog Gr 57 := reads_gr (ti := 3) (tl := 32) (by kernel_rfl) (by kernel_rfl) (by kernel_rfl) (by kernel_rfl) (by kernel_rfl) try_rus
end Go.Proofs.Ytniobbepliknmaa.V
