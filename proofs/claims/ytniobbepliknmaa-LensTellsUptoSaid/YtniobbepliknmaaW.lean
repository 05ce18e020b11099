/- From the reading of arguments to typed data, and from a contract to a row; no condition. -/
import Derived.Test.YtniobbepliknmaaVj
import Derived.Test.YtniobbepliknmaaRows
import Derived.WalkKit
import Derived.ProofKit
import Derived.OpenShut
import Derived.JoinedCond
import Derived.Carry
namespace Go.Proofs.Ytniobbepliknmaa.V
open Go Go.ChangeShapes Go.RowKit
set_option linter.unusedVariables false

/-- the whole memory as one heap -/
def phOf (w : World) : PH := fun k => w.heap[k]?
theorem sat_phOf (w : World) : Sat [phOf w] w := ⟨by intro h hh; simp at hh; subst hh; exact fun _ _ e => e, by simp⟩

theorem bulk_mem {H : Type} {d : DataW H} {l : List (DataW H)} (h : d ∈ l) : Rows.uptoBulk d ≤ Rows.uptoBulkAll l := by
  induction l with
  | nil => cases h
  | cons x r ih =>
    simp only [Rows.uptoBulkAll]
    cases List.mem_cons.1 h with
    | inl e => subst e; omega
    | inr e => have := ih e; omega

/-- how much there is of it -/
class Meas (α : Type) where
  meas : α → Nat
open Meas (meas)
def measL {α : Type} [Meas α] : List α → Nat
  | [] => 0
  | x :: r => meas x + measL r
instance : Meas Int := ⟨fun _ => 1⟩
instance : Meas Bool := ⟨fun _ => 1⟩
instance : Meas ByteArray := ⟨fun s => s.size + 1⟩
instance {α : Type} [Meas α] : Meas (List α) := ⟨fun l => measL l + 1⟩

/-- what is read as of type t is an α -/
def Reads (P : Program) (α : Type) [Rep α] [Meas α] (t : TypeId) : Prop :=
  ∀ (H : Type) (enc : TypeId × Value → H) (w : World) (fuel : Nat) (cs : List Value) (x : DataW H × List MemPlace),
    DataW.trod enc P w 0 (fun _ => true) true fuel t cs = some x → Rows.uptoBulk x.1 ≤ 1048576 → ∃ a : α, Rep.ok (lk [phOf w]) a cs ∧ meas a ≤ Rows.uptoBulk x.1

theorem wf_i64 {n : Int} (h : (Lit.int .i64 n).wf = true) : -9223372036854775808 ≤ n ∧ n ≤ 9223372036854775807 := by
  simpa [Lit.wf, IntKind.min, IntKind.max, IntKind.signed, IntKind.bits] using h

theorem reads_bool {P : Program} {t : TypeId} (ht : P.underlying t = some .bool) : Reads P Bool t := by
  intro H enc w fuel cs x hx _
  obtain ⟨b, rfl, rfl⟩ := DataW.trod_bool ht hx
  exact ⟨b, rfl, by simp [meas, Rows.uptoBulk]⟩
theorem reads_int {P : Program} {t : TypeId} (ht : P.underlying t = some (.int .i64)) : Reads P Int t := by
  intro H enc w fuel cs x hx _
  obtain ⟨n, rfl, rfl, hw⟩ := DataW.trod_int ht hx
  exact ⟨n, rfl, by simp [meas, Rows.uptoBulk]⟩
theorem reads_string {P : Program} {t : TypeId} (ht : P.underlying t = some .string) : Reads P ByteArray t := by
  intro H enc w fuel cs x hx _
  obtain ⟨n, rfl, rfl, hw⟩ := DataW.trod_string ht hx
  exact ⟨n, rfl, by show n.size + 1 ≤ _; simp only [Rows.uptoBulk, Array.length_toList]; exact Nat.le_refl _⟩

theorem exists_list {α : Type} (p : Nat → α → Prop) : ∀ n, (∀ i, i < n → ∃ a, p i a) → ∃ l : List α, l.length = n ∧ ∀ i a, l[i]? = some a → p i a
  | 0, _ => ⟨[], rfl, by simp⟩
  | n + 1, h => by
    obtain ⟨l, hl, hp⟩ := exists_list p n (fun i hi => h i (by omega))
    obtain ⟨a, ha⟩ := h n (by omega)
    refine ⟨l ++ [a], by simp [hl], fun i b hb => ?_⟩
    by_cases hi : i < n
    · rw [List.getElem?_append_left (by omega)] at hb
      exact hp i b hb
    · have : i = n := by
        have := (List.getElem?_eq_some_iff.1 hb).1
        simp at this
        omega
      subst this
      rw [List.getElem?_append_right (by omega), hl] at hb
      simp at hb
      subst hb
      exact ha
theorem measL_le {α H : Type} [Meas α] : ∀ (l : List α) (ys : List (DataW H)), l.length = ys.length → (∀ (i : Nat) (a : α) (y : DataW H), l[i]? = some a → ys[i]? = some y → meas a ≤ Rows.uptoBulk y) → measL l ≤ Rows.uptoBulkAll ys
  | [], _, _, _ => by simp [measL]
  | a :: l, [], h, _ => by simp at h
  | a :: l, y :: ys, h, k => by
    have h1 := measL_le l ys (by simpa using h) (fun i b z hb hz => k (i + 1) b z (by simpa using hb) (by simpa using hz))
    have h2 := k 0 a y rfl rfl
    simp only [measL, Rows.uptoBulkAll]
    omega
theorem one_le_bulk {H : Type} (d : DataW H) : 1 ≤ Rows.uptoBulk d := by
  cases d with
  | lit l => cases l <;> simp [Rows.uptoBulk]
  | _ => simp [Rows.uptoBulk]
theorem len_le_bulk {H : Type} : ∀ (l : List (DataW H)), l.length ≤ Rows.uptoBulkAll l
  | [] => by simp
  | x :: r => by have := one_le_bulk x; have := len_le_bulk r; simp only [Rows.uptoBulkAll, List.length_cons]; omega

theorem reads_list {P : Program} {t e : TypeId} {α : Type} [Rep α] [Meas α] (ht : P.underlying t = some (.slice e)) (hc : P.cellsOf e = Rep.sz α) (hpos : 0 < Rep.sz α) (he : Reads P α e) : Reads P (List α) t := by
  intro H enc w fuel cs x hx hbulk
  rcases DataW.trod_slice ht hx with ⟨rfl, rfl⟩ | ⟨a, len, cap, elems, rest, n, _, rfl, rfl, hb, hl, hm, hlen, hel, hsp, hns⟩
  · exact ⟨[], ⟨none, 0, rfl, by simp, by simp, by simp, .inl rfl⟩, by simp [meas, measL, Rows.uptoBulk]⟩
  simp only [Rows.uptoBulk] at hbulk
  have key : ∀ i, i < len → ∃ a' : α, ∃ y cs', elems[i]? = some y ∧ w.cells? 0 (a.add (i * P.cellsOf e)) (P.cellsOf e) = some cs' ∧ Rep.ok (lk [phOf w]) a' cs' ∧ meas a' ≤ Rows.uptoBulk y.1 := by
    intro i hi
    have h1 := hel i hi
    rw [List.getElem?_eq_getElem (by omega), Option.bind_eq_some_iff] at h1
    obtain ⟨cs', hcs, hy⟩ := h1
    obtain ⟨a', h2, h3⟩ := he H enc w n cs' _ hy (by
      have : Rows.uptoBulk (elems[i]'(by omega)).1 ≤ Rows.uptoBulkAll (elems.map (·.1)) := bulk_mem (List.mem_map.2 ⟨_, List.getElem_mem _, rfl⟩)
      omega)
    exact ⟨a', _, cs', List.getElem?_eq_getElem (by omega), hcs, h2, h3⟩
  obtain ⟨xs, hxl, hxs⟩ := exists_list _ len key
  have hle := len_le_bulk (elems.map (·.1))
  simp only [List.length_map] at hle
  refine ⟨xs, ⟨some a, cap, by rw [hxl], by omega, hm, by omega, ?_⟩, ?_⟩
  · by_cases h0 : len = 0
    · left
      exact List.eq_nil_of_length_eq_zero (by omega)
    right
    obtain ⟨a0, y0, cs0, _, hcs0, _, _⟩ := key 0 (by omega)
    have hcell : w.cell? a ≠ none := by
      have h1 := (World.cells?_some hcs0).2.2 0 (by omega)
      have h2 := (World.cells?_some hcs0).2.1
      simp only [Nat.zero_mul, Addr.add, if_true] at h1
      rw [h1, List.getElem?_eq_getElem (by omega)]
      simp
    obtain ⟨b, o, sp⟩ := a
    simp only [World.cell?] at hcell
    split at hcell
    · rename_i c T fr hheap
      cases sp with
      | some s => simp at hcell
      | none =>
        refine ⟨b, o, c, T, fr, rfl, lk_one.2 hheap, fun i x hi => ?_⟩
        obtain ⟨y, cs', _, hcs, hok, _⟩ := hxs i x hi
        refine ⟨cs', hok, fun j hj => ?_⟩
        have h1 := (World.cells?_some hcs).2.2 j (by omega)
        rw [← h1, hc]
        have e : ((⟨b, o, none⟩ : Addr).add (i * Rep.sz α)).add j = ⟨b, o + i * Rep.sz α + j, none⟩ := by
          unfold Addr.add
          split <;> split <;> simp_all
        rw [e]
        simp [World.cell?, hheap]
    · exact absurd rfl hcell
  · have : measL xs ≤ Rows.uptoBulkAll (elems.map (·.1)) := measL_le _ _ (by simp; omega) (fun i a' y h1 h2 => by
      obtain ⟨z, _, hz, _, _, hm⟩ := hxs i a' h1
      rw [List.getElem?_map, hz] at h2
      simp at h2
      subst h2
      exact hm)
    simp only [meas, Rows.uptoBulk]
    omega

/-- how an argument of basic kind or a slice is handed over: one cell -/
theorem reads_arg {P : Program} {t : TypeId} {α : Type} [Rep α] [Meas α] (h : Reads P α t) {H : Type} {enc : TypeId × Value → H} {w : World} {v : Value} {d : DataW H} {p : List MemPlace}
    (hd : DataW.Trod enc P w 0 (fun _ => true) true t v d p) (hb : Rows.uptoBulk d ≤ 1048576) : ∃ a : α, Rep.ok (lk [phOf w]) a v.cells.toList ∧ meas a ≤ Rows.uptoBulk d := by
  obtain ⟨fuel, hf⟩ := hd
  exact h H enc w fuel _ _ hf hb

theorem arg_int {P : Program} {t : TypeId} (ht : P.underlying t = some (.int .i64)) {r : Reach} {b0 : Nat} {w : World} {v : Value} {H : Type} {enc : TypeId × Value → H} {d : DataW H} {p : List MemPlace}
    (hval : Value.okWide P w r b0 t v) (hd : DataW.Trod enc P w 0 (fun _ => true) true t v d p) : ∃ n : Int, v = .int .i64 n ∧ -9223372036854775808 ≤ n ∧ n ≤ 9223372036854775807 := by
  obtain ⟨n, rfl, _, _, hw⟩ := open_int ht hval hd
  exact ⟨n, rfl, wf_i64 hw⟩
theorem arg_list {P : Program} {t e : TypeId} {α : Type} [Rep α] [Meas α] (ht : P.underlying t = some (.slice e)) (hr : Reads P (List α) t) {r : Reach} {b0 : Nat} {w : World} {v : Value} {H : Type} {enc : TypeId × Value → H} {d : DataW H} {p : List MemPlace}
    (hval : Value.okWide P w r b0 t v) (hd : DataW.Trod enc P w 0 (fun _ => true) true t v d p) (hb : Rows.uptoBulk d ≤ 1048576) :
    ∃ (xs : List α) (A : Option Addr) (c : Nat), v = .slice A xs.length c ∧ SlOk (lk [phOf w]) A c xs ∧ meas xs ≤ Rows.uptoBulk d := by
  obtain ⟨xs, ⟨A, c, he, hs⟩, hm⟩ := reads_arg hr hd hb
  refine ⟨xs, A, c, ?_, hs, hm⟩
  simp only [Value.okWide, ht, Cell.okWide, Cell.ok] at hval
  cases v <;> simp_all [Value.cells]
theorem arg_string {P : Program} {t : TypeId} (ht : P.underlying t = some .string) {r : Reach} {b0 : Nat} {w : World} {v : Value} {H : Type} {enc : TypeId × Value → H} {d : DataW H} {p : List MemPlace}
    (hval : Value.okWide P w r b0 t v) (hd : DataW.Trod enc P w 0 (fun _ => true) true t v d p) (hb : Rows.uptoBulk d ≤ 1048576) :
    ∃ s : ByteArray, v = .string s ∧ meas s ≤ Rows.uptoBulk d := by
  obtain ⟨s, he, hm⟩ := reads_arg (reads_string ht) hd hb
  have he : v.cells.toList = [.string s] := he
  refine ⟨s, ?_, hm⟩
  simp only [Value.okWide, ht, Cell.okWide, Cell.ok] at hval
  cases v <;> simp_all [Value.cells]
theorem arg_agg {P : Program} {t : TypeId} {fs : Array Field} {α : Type} [Rep α] [Meas α] (ht : P.underlying t = some (.struct fs)) (hr : Reads P α t) {r : Reach} {b0 : Nat} {w : World} {v : Value} {H : Type} {enc : TypeId × Value → H} {d : DataW H} {p : List MemPlace}
    (hval : Value.okWide P w r b0 t v) (hd : DataW.Trod enc P w 0 (fun _ => true) true t v d p) (hb : Rows.uptoBulk d ≤ 1048576) :
    ∃ (x : α) (cs : List Value), v = .agg cs.toArray ∧ Rep.ok (lk [phOf w]) x cs ∧ meas x ≤ Rows.uptoBulk d := by
  obtain ⟨x, hx, hm⟩ := reads_arg hr hd hb
  simp only [Value.okWide, ht] at hval
  obtain ⟨cs, rfl, _, _⟩ := hval
  exact ⟨x, cs.toList, by simp, by simpa [Value.cells] using hx, hm⟩

/-- the arguments read, after it, as they did -/
theorem trodAll_below {H : Type} {enc : TypeId × Value → H} {P : Program} (hl : laidOutB P = true) {W W' : World} (hb : Below W.heap.size W W') (sp : Nat → Bool) :
    ∀ (ts : List TypeId) (vs : List Value) (ds : List (DataW H)) (ps : List MemPlace), (∀ t ∈ ts, P.readableRec t = true ∧ t < P.types.size) → (∀ x ∈ ps, x.block < W.heap.size) → (∀ x ∈ ps, sp x.block = true) →
      DataW.TrodAll enc P W 0 (fun _ => true) true ts vs ds ps → DataW.TrodAll enc P W' 0 sp true ts vs ds ps
  | [], [], [], ps, _, _, _, h => h
  | t :: ts, v :: vs, d :: ds, ps, ht, hp, hs, ⟨p, q, h1, h2, e⟩ => by
    subst e
    exact ⟨p, q, WideElems.Trod_stays hl (ht t (by simp)).1 (ht t (by simp)).2 h1 (fun x hx => hb.same (hp x (by simp [hx]))) (fun x hx => hs x (by simp [hx])),
      trodAll_below hl hb sp ts vs ds q (fun u hu => ht u (by simp [hu])) (fun x hx => hp x (by simp [hx])) (fun x hx => hs x (by simp [hx])) h2, rfl⟩
  | [], [], _ :: _, _, _, _, _, h => h.elim
  | [], _ :: _, _, _, _, _, _, h => by cases h
  | _ :: _, [], _, _, _, _, _, h => by cases h
  | _ :: _, _ :: _, [], _, _, _, _, h => by cases h

theorem below_of_done {w w' : World} {Γ' : Ctx} (h : Done [phOf w] [] Γ' w w') : Below w.heap.size w w' :=
  ⟨h.os, h.tape, h.output, h.size, fun k hk => h.same k hk (by simp)⟩

theorem trodAll_len {H : Type} {enc : TypeId × Value → H} {P : Program} {w : World} {sp : Nat → Bool} : ∀ (ts : List TypeId) (vs : List Value) (ds : List (DataW H)) (ps : List MemPlace),
    DataW.TrodAll enc P w 0 sp true ts vs ds ps → ds.length = ts.length
  | [], [], [], ps, h => rfl
  | t :: ts, v :: vs, d :: ds, ps, ⟨p, q, h1, h2, e⟩ => by simp [trodAll_len ts vs ds q h2]
  | [], [], _ :: _, _, h => h.elim
  | [], _ :: _, _, _, h => by cases h
  | _ :: _, [], _, _, h => by cases h
  | _ :: _, _ :: _, [], _, h => by cases h

/-- A LAW's CONTRACT: called where the arguments so read, it answers true and makes only new memory. -/
theorem law_contract {P : Program} {f : FuncId} {fn : Func} {s : ChangeSpec} (hl : laidOutB P = true) (hvars : s.vars = [])
    (hs : ∀ (H : Type) (ds : List (DataW H)), ds.length = fn.params.toList.length → s.fn H ds = { results := [.lit (.bool true)], args := ds })
    (hts : ∀ t ∈ fn.params.toList, P.readableRec t = true ∧ t < P.types.size) {tb : TypeId} (hres : fn.resultTypes = #[tb]) (htb : P.underlying tb = some .bool)
    {H : Type} {enc : TypeId × Value → H} {W : World} {args : Array Value} {ds gs : List (DataW H)} {before : List MemPlace} {apart fresh handsOn again : Bool}
    (hW : DataW.Whole enc P fn.params.toList s.vars apart W args.toList ds gs before)
    (hr : Ret P f args.toList [phOf W] [] (fun v Γ => Γ = [] ∧ v = .bool true)) :
    Calls P f args W fun e W' => ∃ v, e = .returned v ∧ s.post enc P fn apart fresh handsOn again W args v W' := by
  have hlt := hW.lt
  have hW' := hW
  obtain ⟨p, q, hA, hV, hpq, hfz, hnd⟩ := hW
  rw [hvars] at hV
  obtain ⟨rfl, rfl⟩ := trodVars_none hV
  have hlen := trodAll_len _ _ _ _ hA
  have hsp := hs H ds hlen
  have hbef : before = p := by simp [hpq]
  subst hbef
  have hc := hr.calls W (by simpa using sat_phOf W)
  refine hc.mono fun e W' ⟨v, Γ', he, ⟨hΓ, hv⟩, hd⟩ => ?_
  subst he hv hΓ
  have hb := below_of_done hd
  have r1 : ∀ (b : Nat) (sp : Nat → Bool) (hd : Bool), DataW.TrodAll enc P W' b sp hd fn.resultTypes.toList ((Value.bool true).resultList fn.resultTypes.size) (s.fn H (ds ++ [])).results [] := by
    intro b sp hd
    rw [List.append_nil, hsp, hres]
    exact trodAll_cons_mk (shut_bool htb _) trodAll_mk0
  have r2 : ∀ sp : Nat → Bool, (∀ p ∈ before, sp p.block = true) → DataW.TrodAll enc P W' 0 sp true fn.params.toList args.toList (s.fn H (ds ++ [])).args before := by
    intro sp hh
    rw [List.append_nil, hsp]
    exact trodAll_below hl hb sp _ _ _ _ hts (fun x hx => hlt x hx) hh hA
  have r3 : ∀ sp : Nat → Bool, DataW.TrodVars enc P W' sp s.vars (s.fn H (ds ++ [])).vars [] := by
    intro sp
    rw [List.append_nil, hsp, hvars]
    rfl
  refine ⟨_, rfl, ds, [], before, [], before, [], hW', r1 _ _ _, r2 _ (fun p hp => by simpa using hlt p hp), r3 _, World.keptBut_mono (fun p hp => ⟨hp, Or.inr (Or.inl hp)⟩) (hb.frame (· ∈ before)), fun _ => ?_⟩
  refine ⟨ok_one (by rw [hres]) rfl (okWide_bool_mk htb _), _, _, ([] ++ before) ++ [], ⟨[] ++ before, [], trodAll_append (r2 _ (fun _ _ => rfl)) (r1 _ _ _), r3 _, rfl, ?_, ?_⟩, ?_⟩
  · intro b off hp
    have hp' : MemPlace.cell b off ∈ before := by simpa using hp
    rw [hb.frozen (hlt _ hp')]
    exact hfz b off hp'
  · intro ha
    simpa using hnd ha
  · intro p hp _
    simpa using hp
end Go.Proofs.Ytniobbepliknmaa.V
