/- Texts put together, in the order in which they build; each says what it proves; no condition. -/
import Derived.Test.YtniobbepliknmaaM2
import Derived.Test.YtniobbepliknmaaRows
import Derived.WalkKit
import Derived.ProofKit
import Derived.OpenShut
import Derived.JoinedCond
import Derived.Carry
/- From the reading of arguments to typed data, and from a contract to a row; no condition. -/
namespace Go.Proofs.Ytniobbepliknmaa.V
open Go Go.ChangeShapes Go.RowKit
set_option linter.unusedVariables false

/-- the whole memory as one heap -/
def phOf (w : World) : PH := fun k => w.heap[k]?
theorem sat_phOf (w : World) : Sat [phOf w] w := ⟨by intro h hh; simp at hh; subst hh; exact fun _ _ e => e, by simp⟩

theorem bulk_mem {H : Type} {d : DataW H} {l : List (DataW H)} (h : d ∈ l) : Rows.uptoBulk d ≤ Rows.uptoBulkAll l := by
  induction l with
  | nil => cases h
  | cons x r ih =>
    simp only [Rows.uptoBulkAll]
    cases List.mem_cons.1 h with
    | inl e => subst e; omega
    | inr e => have := ih e; omega

/-- how much there is of it -/
class Meas (α : Type) where
  meas : α → Nat
open Meas (meas)
def measL {α : Type} [Meas α] : List α → Nat
  | [] => 0
  | x :: r => meas x + measL r
instance : Meas Int := ⟨fun _ => 1⟩
instance : Meas Bool := ⟨fun _ => 1⟩
instance : Meas ByteArray := ⟨fun s => s.size + 1⟩
instance {α : Type} [Meas α] : Meas (List α) := ⟨fun l => measL l + 1⟩

/-- what is read as of type t is an α -/
def Reads (P : Program) (α : Type) [Rep α] [Meas α] (t : TypeId) : Prop :=
  ∀ (H : Type) (enc : TypeId × Value → H) (w : World) (fuel : Nat) (cs : List Value) (x : DataW H × List MemPlace),
    DataW.trod enc P w 0 (fun _ => true) true fuel t cs = some x → Rows.uptoBulk x.1 ≤ 1048576 → ∃ a : α, Rep.ok (lk [phOf w]) a cs ∧ meas a ≤ Rows.uptoBulk x.1

theorem wf_i64 {n : Int} (h : (Lit.int .i64 n).wf = true) : -9223372036854775808 ≤ n ∧ n ≤ 9223372036854775807 := by
  simpa [Lit.wf, IntKind.min, IntKind.max, IntKind.signed, IntKind.bits] using h

theorem reads_bool {P : Program} {t : TypeId} (ht : P.underlying t = some .bool) : Reads P Bool t := by
  intro H enc w fuel cs x hx _
  obtain ⟨b, rfl, rfl⟩ := DataW.trod_bool ht hx
  exact ⟨b, rfl, by simp [meas, Rows.uptoBulk]⟩
theorem reads_int {P : Program} {t : TypeId} (ht : P.underlying t = some (.int .i64)) : Reads P Int t := by
  intro H enc w fuel cs x hx _
  obtain ⟨n, rfl, rfl, hw⟩ := DataW.trod_int ht hx
  exact ⟨n, rfl, by simp [meas, Rows.uptoBulk]⟩
theorem reads_string {P : Program} {t : TypeId} (ht : P.underlying t = some .string) : Reads P ByteArray t := by
  intro H enc w fuel cs x hx _
  obtain ⟨n, rfl, rfl, hw⟩ := DataW.trod_string ht hx
  exact ⟨n, rfl, by show n.size + 1 ≤ _; simp only [Rows.uptoBulk, Array.length_toList]; exact Nat.le_refl _⟩

theorem exists_list {α : Type} (p : Nat → α → Prop) : ∀ n, (∀ i, i < n → ∃ a, p i a) → ∃ l : List α, l.length = n ∧ ∀ i a, l[i]? = some a → p i a
  | 0, _ => ⟨[], rfl, by simp⟩
  | n + 1, h => by
    obtain ⟨l, hl, hp⟩ := exists_list p n (fun i hi => h i (by omega))
    obtain ⟨a, ha⟩ := h n (by omega)
    refine ⟨l ++ [a], by simp [hl], fun i b hb => ?_⟩
    by_cases hi : i < n
    · rw [List.getElem?_append_left (by omega)] at hb
      exact hp i b hb
    · have : i = n := by
        have := (List.getElem?_eq_some_iff.1 hb).1
        simp at this
        omega
      subst this
      rw [List.getElem?_append_right (by omega), hl] at hb
      simp at hb
      subst hb
      exact ha
theorem measL_le {α H : Type} [Meas α] : ∀ (l : List α) (ys : List (DataW H)), l.length = ys.length → (∀ (i : Nat) (a : α) (y : DataW H), l[i]? = some a → ys[i]? = some y → meas a ≤ Rows.uptoBulk y) → measL l ≤ Rows.uptoBulkAll ys
  | [], _, _, _ => by simp [measL]
  | a :: l, [], h, _ => by simp at h
  | a :: l, y :: ys, h, k => by
    have h1 := measL_le l ys (by simpa using h) (fun i b z hb hz => k (i + 1) b z (by simpa using hb) (by simpa using hz))
    have h2 := k 0 a y rfl rfl
    simp only [measL, Rows.uptoBulkAll]
    omega
theorem one_le_bulk {H : Type} (d : DataW H) : 1 ≤ Rows.uptoBulk d := by
  cases d with
  | lit l => cases l <;> simp [Rows.uptoBulk]
  | _ => simp [Rows.uptoBulk]
theorem len_le_bulk {H : Type} : ∀ (l : List (DataW H)), l.length ≤ Rows.uptoBulkAll l
  | [] => by simp
  | x :: r => by have := one_le_bulk x; have := len_le_bulk r; simp only [Rows.uptoBulkAll, List.length_cons]; omega

theorem reads_list {P : Program} {t e : TypeId} {α : Type} [Rep α] [Meas α] (ht : P.underlying t = some (.slice e)) (hc : P.cellsOf e = Rep.sz α) (hpos : 0 < Rep.sz α) (he : Reads P α e) : Reads P (List α) t := by
  intro H enc w fuel cs x hx hbulk
  rcases DataW.trod_slice ht hx with ⟨rfl, rfl⟩ | ⟨a, len, cap, elems, rest, n, _, rfl, rfl, hb, hl, hm, hlen, hel, hsp, hns⟩
  · exact ⟨[], ⟨none, 0, rfl, by simp, by simp, by simp, .inl rfl⟩, by simp [meas, measL, Rows.uptoBulk]⟩
  simp only [Rows.uptoBulk] at hbulk
  have key : ∀ i, i < len → ∃ a' : α, ∃ y cs', elems[i]? = some y ∧ w.cells? 0 (a.add (i * P.cellsOf e)) (P.cellsOf e) = some cs' ∧ Rep.ok (lk [phOf w]) a' cs' ∧ meas a' ≤ Rows.uptoBulk y.1 := by
    intro i hi
    have h1 := hel i hi
    rw [List.getElem?_eq_getElem (by omega), Option.bind_eq_some_iff] at h1
    obtain ⟨cs', hcs, hy⟩ := h1
    obtain ⟨a', h2, h3⟩ := he H enc w n cs' _ hy (by
      have : Rows.uptoBulk (elems[i]'(by omega)).1 ≤ Rows.uptoBulkAll (elems.map (·.1)) := bulk_mem (List.mem_map.2 ⟨_, List.getElem_mem _, rfl⟩)
      omega)
    exact ⟨a', _, cs', List.getElem?_eq_getElem (by omega), hcs, h2, h3⟩
  obtain ⟨xs, hxl, hxs⟩ := exists_list _ len key
  have hle := len_le_bulk (elems.map (·.1))
  simp only [List.length_map] at hle
  refine ⟨xs, ⟨some a, cap, by rw [hxl], by omega, hm, by omega, ?_⟩, ?_⟩
  · by_cases h0 : len = 0
    · left
      exact List.eq_nil_of_length_eq_zero (by omega)
    right
    obtain ⟨a0, y0, cs0, _, hcs0, _, _⟩ := key 0 (by omega)
    have hcell : w.cell? a ≠ none := by
      have h1 := (World.cells?_some hcs0).2.2 0 (by omega)
      have h2 := (World.cells?_some hcs0).2.1
      simp only [Nat.zero_mul, Addr.add, if_true] at h1
      rw [h1, List.getElem?_eq_getElem (by omega)]
      simp
    obtain ⟨b, o, sp⟩ := a
    simp only [World.cell?] at hcell
    split at hcell
    · rename_i c T fr hheap
      cases sp with
      | some s => simp at hcell
      | none =>
        refine ⟨b, o, c, T, fr, rfl, lk_one.2 hheap, fun i x hi => ?_⟩
        obtain ⟨y, cs', _, hcs, hok, _⟩ := hxs i x hi
        refine ⟨cs', hok, fun j hj => ?_⟩
        have h1 := (World.cells?_some hcs).2.2 j (by omega)
        rw [← h1, hc]
        have e : ((⟨b, o, none⟩ : Addr).add (i * Rep.sz α)).add j = ⟨b, o + i * Rep.sz α + j, none⟩ := by
          unfold Addr.add
          split <;> split <;> simp_all
        rw [e]
        simp [World.cell?, hheap]
    · exact absurd rfl hcell
  · have : measL xs ≤ Rows.uptoBulkAll (elems.map (·.1)) := measL_le _ _ (by simp; omega) (fun i a' y h1 h2 => by
      obtain ⟨z, _, hz, _, _, hm⟩ := hxs i a' h1
      rw [List.getElem?_map, hz] at h2
      simp at h2
      subst h2
      exact hm)
    simp only [meas, Rows.uptoBulk]
    omega

/-- how an argument of basic kind or a slice is handed over: one cell -/
theorem reads_arg {P : Program} {t : TypeId} {α : Type} [Rep α] [Meas α] (h : Reads P α t) {H : Type} {enc : TypeId × Value → H} {w : World} {v : Value} {d : DataW H} {p : List MemPlace}
    (hd : DataW.Trod enc P w 0 (fun _ => true) true t v d p) (hb : Rows.uptoBulk d ≤ 1048576) : ∃ a : α, Rep.ok (lk [phOf w]) a v.cells.toList ∧ meas a ≤ Rows.uptoBulk d := by
  obtain ⟨fuel, hf⟩ := hd
  exact h H enc w fuel _ _ hf hb

theorem arg_int {P : Program} {t : TypeId} (ht : P.underlying t = some (.int .i64)) {r : Reach} {b0 : Nat} {w : World} {v : Value} {H : Type} {enc : TypeId × Value → H} {d : DataW H} {p : List MemPlace}
    (hval : Value.okWide P w r b0 t v) (hd : DataW.Trod enc P w 0 (fun _ => true) true t v d p) : ∃ n : Int, v = .int .i64 n ∧ -9223372036854775808 ≤ n ∧ n ≤ 9223372036854775807 := by
  obtain ⟨n, rfl, _, _, hw⟩ := open_int ht hval hd
  exact ⟨n, rfl, wf_i64 hw⟩
theorem arg_list {P : Program} {t e : TypeId} {α : Type} [Rep α] [Meas α] (ht : P.underlying t = some (.slice e)) (hr : Reads P (List α) t) {r : Reach} {b0 : Nat} {w : World} {v : Value} {H : Type} {enc : TypeId × Value → H} {d : DataW H} {p : List MemPlace}
    (hval : Value.okWide P w r b0 t v) (hd : DataW.Trod enc P w 0 (fun _ => true) true t v d p) (hb : Rows.uptoBulk d ≤ 1048576) :
    ∃ (xs : List α) (A : Option Addr) (c : Nat), v = .slice A xs.length c ∧ SlOk (lk [phOf w]) A c xs ∧ meas xs ≤ Rows.uptoBulk d := by
  obtain ⟨xs, ⟨A, c, he, hs⟩, hm⟩ := reads_arg hr hd hb
  refine ⟨xs, A, c, ?_, hs, hm⟩
  simp only [Value.okWide, ht, Cell.okWide, Cell.ok] at hval
  cases v <;> simp_all [Value.cells]
theorem arg_string {P : Program} {t : TypeId} (ht : P.underlying t = some .string) {r : Reach} {b0 : Nat} {w : World} {v : Value} {H : Type} {enc : TypeId × Value → H} {d : DataW H} {p : List MemPlace}
    (hval : Value.okWide P w r b0 t v) (hd : DataW.Trod enc P w 0 (fun _ => true) true t v d p) (hb : Rows.uptoBulk d ≤ 1048576) :
    ∃ s : ByteArray, v = .string s ∧ meas s ≤ Rows.uptoBulk d := by
  obtain ⟨s, he, hm⟩ := reads_arg (reads_string ht) hd hb
  have he : v.cells.toList = [.string s] := he
  refine ⟨s, ?_, hm⟩
  simp only [Value.okWide, ht, Cell.okWide, Cell.ok] at hval
  cases v <;> simp_all [Value.cells]
theorem arg_agg {P : Program} {t : TypeId} {fs : Array Field} {α : Type} [Rep α] [Meas α] (ht : P.underlying t = some (.struct fs)) (hr : Reads P α t) {r : Reach} {b0 : Nat} {w : World} {v : Value} {H : Type} {enc : TypeId × Value → H} {d : DataW H} {p : List MemPlace}
    (hval : Value.okWide P w r b0 t v) (hd : DataW.Trod enc P w 0 (fun _ => true) true t v d p) (hb : Rows.uptoBulk d ≤ 1048576) :
    ∃ (x : α) (cs : List Value), v = .agg cs.toArray ∧ Rep.ok (lk [phOf w]) x cs ∧ meas x ≤ Rows.uptoBulk d := by
  obtain ⟨x, hx, hm⟩ := reads_arg hr hd hb
  simp only [Value.okWide, ht] at hval
  obtain ⟨cs, rfl, _, _⟩ := hval
  exact ⟨x, cs.toList, by simp, by simpa [Value.cells] using hx, hm⟩

/-- the arguments read, after it, as they did -/
theorem trodAll_below {H : Type} {enc : TypeId × Value → H} {P : Program} (hl : laidOutB P = true) {W W' : World} (hb : Below W.heap.size W W') (sp : Nat → Bool) :
    ∀ (ts : List TypeId) (vs : List Value) (ds : List (DataW H)) (ps : List MemPlace), (∀ t ∈ ts, P.readableRec t = true ∧ t < P.types.size) → (∀ x ∈ ps, x.block < W.heap.size) → (∀ x ∈ ps, sp x.block = true) →
      DataW.TrodAll enc P W 0 (fun _ => true) true ts vs ds ps → DataW.TrodAll enc P W' 0 sp true ts vs ds ps
  | [], [], [], ps, _, _, _, h => h
  | t :: ts, v :: vs, d :: ds, ps, ht, hp, hs, ⟨p, q, h1, h2, e⟩ => by
    subst e
    exact ⟨p, q, WideElems.Trod_stays hl (ht t (by simp)).1 (ht t (by simp)).2 h1 (fun x hx => hb.same (hp x (by simp [hx]))) (fun x hx => hs x (by simp [hx])),
      trodAll_below hl hb sp ts vs ds q (fun u hu => ht u (by simp [hu])) (fun x hx => hp x (by simp [hx])) (fun x hx => hs x (by simp [hx])) h2, rfl⟩
  | [], [], _ :: _, _, _, _, _, h => h.elim
  | [], _ :: _, _, _, _, _, _, h => by cases h
  | _ :: _, [], _, _, _, _, _, h => by cases h
  | _ :: _, _ :: _, [], _, _, _, _, h => by cases h

theorem below_of_done {w w' : World} {Γ' : Ctx} (h : Done [phOf w] [] Γ' w w') : Below w.heap.size w w' :=
  ⟨h.os, h.tape, h.output, h.size, fun k hk => h.same k hk (by simp)⟩

theorem trodAll_len {H : Type} {enc : TypeId × Value → H} {P : Program} {w : World} {sp : Nat → Bool} : ∀ (ts : List TypeId) (vs : List Value) (ds : List (DataW H)) (ps : List MemPlace),
    DataW.TrodAll enc P w 0 sp true ts vs ds ps → ds.length = ts.length
  | [], [], [], ps, h => rfl
  | t :: ts, v :: vs, d :: ds, ps, ⟨p, q, h1, h2, e⟩ => by simp [trodAll_len ts vs ds q h2]
  | [], [], _ :: _, _, h => h.elim
  | [], _ :: _, _, _, h => by cases h
  | _ :: _, [], _, _, h => by cases h
  | _ :: _, _ :: _, [], _, h => by cases h

/-- A LAW's CONTRACT: called where the arguments so read, it answers true and makes only new memory. -/
theorem law_contract {P : Program} {f : FuncId} {fn : Func} {s : ChangeSpec} (hl : laidOutB P = true) (hvars : s.vars = [])
    (hs : ∀ (H : Type) (ds : List (DataW H)), ds.length = fn.params.toList.length → s.fn H ds = { results := [.lit (.bool true)], args := ds })
    (hts : ∀ t ∈ fn.params.toList, P.readableRec t = true ∧ t < P.types.size) {tb : TypeId} (hres : fn.resultTypes = #[tb]) (htb : P.underlying tb = some .bool)
    {H : Type} {enc : TypeId × Value → H} {W : World} {args : Array Value} {ds gs : List (DataW H)} {before : List MemPlace} {apart fresh handsOn again : Bool}
    (hW : DataW.Whole enc P fn.params.toList s.vars apart W args.toList ds gs before)
    (hr : Ret P f args.toList [phOf W] [] (fun v Γ => Γ = [] ∧ v = .bool true)) :
    Calls P f args W fun e W' => ∃ v, e = .returned v ∧ s.post enc P fn apart fresh handsOn again W args v W' := by
  have hlt := hW.lt
  have hW' := hW
  obtain ⟨p, q, hA, hV, hpq, hfz, hnd⟩ := hW
  rw [hvars] at hV
  obtain ⟨rfl, rfl⟩ := trodVars_none hV
  have hlen := trodAll_len _ _ _ _ hA
  have hsp := hs H ds hlen
  have hbef : before = p := by simp [hpq]
  subst hbef
  have hc := hr.calls W (by simpa using sat_phOf W)
  refine hc.mono fun e W' ⟨v, Γ', he, ⟨hΓ, hv⟩, hd⟩ => ?_
  subst he hv hΓ
  have hb := below_of_done hd
  have r1 : ∀ (b : Nat) (sp : Nat → Bool) (hd : Bool), DataW.TrodAll enc P W' b sp hd fn.resultTypes.toList ((Value.bool true).resultList fn.resultTypes.size) (s.fn H (ds ++ [])).results [] := by
    intro b sp hd
    rw [List.append_nil, hsp, hres]
    exact trodAll_cons_mk (shut_bool htb _) trodAll_mk0
  have r2 : ∀ sp : Nat → Bool, (∀ p ∈ before, sp p.block = true) → DataW.TrodAll enc P W' 0 sp true fn.params.toList args.toList (s.fn H (ds ++ [])).args before := by
    intro sp hh
    rw [List.append_nil, hsp]
    exact trodAll_below hl hb sp _ _ _ _ hts (fun x hx => hlt x hx) hh hA
  have r3 : ∀ sp : Nat → Bool, DataW.TrodVars enc P W' sp s.vars (s.fn H (ds ++ [])).vars [] := by
    intro sp
    rw [List.append_nil, hsp, hvars]
    rfl
  refine ⟨_, rfl, ds, [], before, [], before, [], hW', r1 _ _ _, r2 _ (fun p hp => by simpa using hlt p hp), r3 _, World.keptBut_mono (fun p hp => ⟨hp, Or.inr (Or.inl hp)⟩) (hb.frame (· ∈ before)), fun _ => ?_⟩
  refine ⟨ok_one (by rw [hres]) rfl (okWide_bool_mk htb _), _, _, ([] ++ before) ++ [], ⟨[] ++ before, [], trodAll_append (r2 _ (fun _ _ => rfl)) (r1 _ _ _), r3 _, rfl, ?_, ?_⟩, ?_⟩
  · intro b off hp
    have hp' : MemPlace.cell b off ∈ before := by simpa using hp
    rw [hb.frozen (hlt _ hp')]
    exact hfz b off hp'
  · intro ha
    simpa using hnd ha
  · intro p hp _
    simpa using hp
end Go.Proofs.Ytniobbepliknmaa.V
/- Data of this program: symbols, rules, grammars, automata; literals that are made; no condition. -/
namespace Go.Proofs.Ytniobbepliknmaa.V
open Go
set_option linter.unusedVariables false
set_option linter.unusedSimpArgs false

structure Sy where
  t : Bool
  n : Int
  deriving DecidableEq
structure Ru where
  l : Int
  r : List Sy
  deriving DecidableEq
structure Gr where
  ts : Int
  ns : Int
  st : Int
  rs : List Ru
  deriving DecidableEq
structure Da where
  st : Int
  ac : List Int
  nx : List (List Int)
  deriving DecidableEq
instance : Rep Sy where
  sz := 2
  ok _ x cs := cs = [.bool x.t, .int .i64 x.n]
  len h := by subst h; rfl
  one h := by subst h; simp [one', Value.oneCell']
  mono h _ := h
instance : Rep Ru where
  sz := 2
  ok L x cs := ∃ A c, cs = [.int .i64 x.l, .slice A x.r.length c] ∧ SlOk L A c x.r
  len h := by obtain ⟨A, c, rfl, _⟩ := h; rfl
  one h := by obtain ⟨A, c, rfl, _⟩ := h; simp [one', Value.oneCell']
  mono h hh := by obtain ⟨A, c, rfl, q⟩ := h; exact ⟨A, c, rfl, q.mono hh⟩
instance : Rep Gr where
  sz := 4
  ok L x cs := ∃ A c, cs = [.int .i64 x.ts, .int .i64 x.ns, .int .i64 x.st, .slice A x.rs.length c] ∧ SlOk L A c x.rs
  len h := by obtain ⟨A, c, rfl, _⟩ := h; rfl
  one h := by obtain ⟨A, c, rfl, _⟩ := h; simp [one', Value.oneCell']
  mono h hh := by obtain ⟨A, c, rfl, q⟩ := h; exact ⟨A, c, rfl, q.mono hh⟩
instance : Rep Da where
  sz := 3
  ok L x cs := ∃ A c B d, cs = [.int .i64 x.st, .slice A x.ac.length c, .slice B x.nx.length d] ∧ SlOk L A c x.ac ∧ SlOk L B d x.nx
  len h := by obtain ⟨A, c, B, d, rfl, _⟩ := h; rfl
  one h := by obtain ⟨A, c, B, d, rfl, _⟩ := h; simp [one', Value.oneCell']
  mono h hh := by obtain ⟨A, c, B, d, rfl, q, q'⟩ := h; exact ⟨A, c, B, d, rfl, q.mono hh, q'.mono hh⟩
theorem ok_sy {L : Mem} {x : Sy} {cs : List Value} (q : Rep.ok L x cs) : cs = [.bool x.t, .int .i64 x.n] := q
theorem ok_ru {L : Mem} {x : Ru} {cs : List Value} (q : Rep.ok L x cs) : ∃ A c, cs = [.int .i64 x.l, .slice A x.r.length c] ∧ SlOk L A c x.r := q
theorem ok_gr {L : Mem} {x : Gr} {cs : List Value} (q : Rep.ok L x cs) : ∃ A c, cs = [.int .i64 x.ts, .int .i64 x.ns, .int .i64 x.st, .slice A x.rs.length c] ∧ SlOk L A c x.rs := q
theorem ok_da {L : Mem} {x : Da} {cs : List Value} (q : Rep.ok L x cs) : ∃ A c B d, cs = [.int .i64 x.st, .slice A x.ac.length c, .slice B x.nx.length d] ∧ SlOk L A c x.ac ∧ SlOk L B d x.nx := q

theorem SlOk.sy {L : Mem} {A : Option Addr} {c : Nat} {xs : List Sy} (q : SlOk L A c xs) {i : Nat} (hi : i < xs.length) :
    ∃ b o, A = some ⟨b, o, none⟩ ∧ ∀ Γ : Ctx, Mem.le L (lk Γ) → Cells Γ b (o + i * 2) [.bool xs[i].t, .int .i64 xs[i].n] := by
  obtain ⟨b, o, hA, cs, h1, h2⟩ := q.get hi
  obtain rfl := ok_sy h1
  exact ⟨b, o, hA, h2⟩
theorem SlOk.ru {L : Mem} {A : Option Addr} {c : Nat} {xs : List Ru} (q : SlOk L A c xs) {i : Nat} (hi : i < xs.length) :
    ∃ b o, A = some ⟨b, o, none⟩ ∧ ∃ A' c', SlOk L A' c' xs[i].r ∧ ∀ Γ : Ctx, Mem.le L (lk Γ) → Cells Γ b (o + i * 2) [.int .i64 xs[i].l, .slice A' xs[i].r.length c'] := by
  obtain ⟨b, o, hA, cs, h1, h2⟩ := q.get hi
  obtain ⟨A', c', rfl, h3⟩ := ok_ru h1
  exact ⟨b, o, hA, A', c', h3, h2⟩

/-! literals -/
theorem Arr.one {α : Type} [Sc α] (b : Nat) (T : TypeId) (xs : List α) : Arr (V.one b (.cells (xs.map Sc.enc).toArray T)) b T xs := one_self _ _
theorem lit_slok {α : Type} [Sc α] {b : Nat} {T : TypeId} {cs : List Value} {Γ : Ctx} (xs : List α) (h : xs.map Sc.enc = cs) (hs : xs.length ≤ 1000) : SlOk (lk (V.one b (.cells cs.toArray T) :: Γ)) (some ⟨b, 0, none⟩) xs.length xs := by
  subst h
  exact (Arr.one b T xs).slok (lk_sub (by simp)) (Nat.le_refl _) (by unfold maxLen; omega) (by omega)
theorem lit_rep1 {α : Type} [Rep α] {L : Mem} {b : Nat} {T : TypeId} {cs : List Value} (x : α) (hb : L b (.cells cs.toArray T (0, 0))) (hx : Rep.ok L x cs) : SlOk L (some ⟨b, 0, none⟩) 1 [x] := by
  refine ⟨by simp, by simp [maxLen], by simp, .inr ⟨b, 0, _, T, _, rfl, hb, fun i y hi => ?_⟩⟩
  cases i with
  | zero => simp at hi; subst hi; exact ⟨cs, hx, fun j hj => by simp⟩
  | succ i => simp at hi
theorem lit_rep2 {α : Type} [Rep α] {L : Mem} {b : Nat} {T : TypeId} {cs ds es : List Value} (x y : α) (hb : L b (.cells es.toArray T (0, 0))) (he : es = cs ++ ds) (hx : Rep.ok L x cs) (hy : Rep.ok L y ds) : SlOk L (some ⟨b, 0, none⟩) 2 [x, y] := by
  subst he
  have h1 := Rep.len hx
  have h2 := Rep.len hy
  refine ⟨by simp, by simp [maxLen], by simp, .inr ⟨b, 0, _, T, _, rfl, hb, fun i z hi => ?_⟩⟩
  match i, hi with
  | 0, hi => simp at hi; subst hi; exact ⟨cs, hx, fun j hj => by simp; rw [List.getElem?_append_left (by omega)]⟩
  | 1, hi => simp at hi; subst hi; exact ⟨ds, hy, fun j hj => by simp; rw [List.getElem?_append_right (by omega)]; congr 1; omega⟩
  | i + 2, hi => simp at hi
theorem lk_head {b : Nat} {o : Obj} {Γ : Ctx} : lk (V.one b o :: Γ) b o := ⟨_, List.mem_cons_self .., one_self _ _⟩
theorem lk_tail {b : Nat} {o : Obj} {g : PH} {Γ : Ctx} (h : lk Γ b o) : lk (g :: Γ) b o := by obtain ⟨x, hx, q⟩ := h; exact ⟨x, List.mem_cons_of_mem _ hx, q⟩

theorem Bld.make0 {α : Type} [Rep α] {b : Nat} {T : TypeId} {L : Mem} {z : Value} {p : Nat} (hz : (cellsV z).length = Rep.sz α) (hp : p ≤ maxLen) : Bld (α := α) (V.one b (.cells (zerosL (cellsV z) p).toArray T)) L T (.slice (some ⟨b, 0, none⟩) 0 p) [] := by
  refine ⟨[], ⟨by simp, ?_⟩, by simp⟩
  cases p with
  | zero => exact .inl ⟨rfl, _, rfl⟩
  | succ p => exact .inr ⟨b, 0, p, _, rfl, by simp, hp, one_self _ _, by simp [zerosL_length, hz], by simp⟩
/-- a row is what the last one was, cut to nothing -/
theorem lit_bld {α : Type} [Sc α] {b : Nat} {T : TypeId} {cs : List Value} {L : Mem} {n : Nat} (xs : List α) (h : xs.map Sc.enc = cs) (hn : xs.length = n + 1) (hs : xs.length ≤ 1000) : Bld (V.one b (.cells cs.toArray T)) L T (.slice (some ⟨b, 0, none⟩) (n + 1) (n + 1)) xs := by
  subst h
  refine ⟨xs.map Sc.enc, ⟨by simp [Rep.sz], .inr ⟨b, 0, n, _, by rw [hn], by omega, by unfold maxLen; omega, one_self _ _, by simp [Rep.sz]; omega, by simp only [Rep.sz, Nat.mul_one, List.drop_zero]; rw [← List.length_map (f := Sc.enc)]; exact List.take_length⟩⟩, fun i x hi => ⟨[Sc.enc x], rfl, fun j hj => ?_⟩⟩
  have : j = 0 := by simp [Rep.sz] at hj; exact hj
  subst this
  simp [Rep.sz, hi]
theorem Bld.ofRow {α : Type} [Sc α] {g : PH} {L : Mem} {e : TypeId} {v : Value} {n : Nat} (xs : List α) (h : Row g e 1 v n (xs.map Sc.enc)) (hn : n = xs.length) : Bld g L e v xs := by
  subst hn
  refine ⟨xs.map Sc.enc, h, fun i x hi => ⟨[Sc.enc x], rfl, fun j hj => ?_⟩⟩
  have : j = 0 := by simp [Rep.sz] at hj; exact hj
  subst this
  simp [Rep.sz, hi]
theorem s_appz {P : Program} {Γr : Ctx} {d : Option Nat} {r : List SOper} {φ : Fr} {Γ : Ctx} {K : Fr → Ctx → Prop} {t u e : TypeId} {sz bytes ix : Nat} {z : Value} {A : Option Addr} {m : Int} {g : PH} (hg : Γ[ix]? = some g) (h0 : 0 ≤ m) (hby : m * bytes ≤ 140737488355328) (hmx : m ≤ maxLen)
    (hk : ∀ v' g', Row g' e sz v' m.toNat (zerosL (cellsV z) m.toNat) → vcOps P Γr r (put φ d (.v true v')) (Γ.set ix g') K) : appzC P Γr d r φ Γ K t u e sz bytes z (true, .slice A 0 0) (true, .int .i64 m) :=
  ⟨rfl, rfl, h0, hby, hmx, ix, g, hg, fun v' g' hr _ => hk v' g' hr⟩
/-- what a row of scalars is -/
theorem Bld.sc {α : Type} [Sc α] {g : PH} {L : Mem} {e : TypeId} {A : Option Addr} {n c : Nat} {xs : List α} (h : Bld g L e (.slice A n c) xs) : n = xs.length ∧ (xs = [] ∨ ∃ b o cap cur, A = some ⟨b, o, none⟩ ∧ c = cap + 1 ∧ n ≤ cap + 1 ∧ cap + 1 ≤ maxLen ∧ g b = some (.cells cur e (0, 0)) ∧ o + (cap + 1) ≤ cur.size ∧ (cur.toList.drop o).take xs.length = xs.map Sc.enc) := by
  obtain ⟨cs, ⟨h1, h2⟩, h3⟩ := h
  have hcs : cs = xs.map Sc.enc := by
    apply List.ext_getElem?
    intro i
    have hl : cs.length = xs.length := by simpa [Rep.sz] using h1
    by_cases hi : i < xs.length
    · obtain ⟨c', q1, q2⟩ := h3 i xs[i] (List.getElem?_eq_getElem hi)
      have q1 := ok_sc q1
      subst q1
      have := q2 0 (by simp [Rep.sz])
      simpa [Rep.sz, hi] using this
    · rw [List.getElem?_eq_none (by omega), List.getElem?_eq_none (by simp; omega)]
  rcases h2 with ⟨q0, A', q⟩ | ⟨b, o, cap, cur, q1, q2, q3, q4, q5, q6⟩
  · simp only [Value.slice.injEq] at q
    exact ⟨by omega, .inl (List.eq_nil_of_length_eq_zero q0)⟩
  · simp only [Value.slice.injEq] at q1
    obtain ⟨rfl, rfl, rfl⟩ := q1
    exact ⟨rfl, .inr ⟨b, o, cap, cur, rfl, rfl, q2, q3, q4, by simpa [Rep.sz] using q5, by rw [← hcs, ← q6]; simp [Rep.sz]⟩⟩
section
variable {P : Program} {Γr : Ctx} {d : Option Nat} {r : List SOper} {φ : Fr} {Γ : Ctx} {K : Fr → Ctx → Prop}
/-- xs[i] = x, xs a row -/
theorem s_storeB {α : Type} [Sc α] {g : PH} {L : Mem} {e : TypeId} {b o n c ix : Nat} {xs : List α} (x : α) {i : Nat} (hg : Γ[ix]? = some g) (h : Bld g L e (.slice (some ⟨b, o, none⟩) n c) xs) (hi : i < xs.length)
    (hk : ∀ g', Bld g' L e (.slice (some ⟨b, o, none⟩) n c) (xs.set i x) → (∀ k, k ≠ b → g' k = g k) → vcOps P Γr r φ (Γ.set ix g') K) : storeP P Γr r φ Γ K 1 b (o + i) (Sc.enc x) := by
  obtain ⟨hn, hh⟩ := h.sc
  rcases hh with rfl | ⟨b', o', cap, cur, hA, rfl, h1, h2, h3, h4, h5⟩
  · simp at hi
  simp only [Option.some.injEq, Addr.mk.injEq, and_true] at hA
  obtain ⟨rfl, rfl⟩ := hA
  refine ⟨ix, g, cur, e, hg, h3, by omega, ?_⟩
  refine hk _ ⟨(xs.set i x).map Sc.enc, ⟨by simp [Rep.sz], .inr ⟨b, o, cap, _, by rw [List.length_set, ← hn], by simp; omega, h2, upd_self _ _ _, ?_, ?_⟩⟩, fun j y hj => ⟨[Sc.enc y], rfl, fun m hm => ?_⟩⟩ (fun k hne => upd_other hne)
  · simp only [Rep.sz, Nat.mul_one, List.size_toArray, setC, Sc.cells, List.length_append, List.length_take, List.length_drop, Array.length_toList, List.length_singleton]
    omega
  · simp only [Rep.sz, Nat.mul_one, setC, Sc.cells, List.length_set]
    rw [List.map_set, ← h5]
    apply List.ext_getElem?
    intro j
    rw [List.getElem?_take, List.getElem?_set]
    by_cases hj : j < xs.length
    · rw [if_pos hj, List.getElem?_drop, List.append_assoc]
      by_cases e : i = j
      · subst e
        rw [if_pos rfl, if_pos (by rw [h5]; simpa using hi)]
        rw [List.getElem?_append_right (by simp; omega)]
        simp
        have : o + i - min (o + i) cur.size = 0 := by omega
        simp [this]
      · rw [if_neg e, List.getElem?_take, if_pos hj, List.getElem?_drop]
        by_cases hlt : j < i
        · rw [List.getElem?_append_left (by simp; omega), List.getElem?_take, if_pos (by omega)]
        · rw [List.getElem?_append_right (by simp; omega), List.getElem?_append_right (by simp; omega), List.getElem?_drop]
          congr 1
          simp
          omega
    · rw [if_neg hj]
      have hne : ¬ i = j := by omega
      rw [if_neg hne, List.getElem?_take, if_neg hj]
  · have : m = 0 := by simp [Rep.sz] at hm; exact hm
    subst this
    simp only [Rep.sz, Nat.mul_one, Nat.add_zero, List.getElem?_map, hj]
    rfl
end

def numsI (n : Nat) : List Int := (List.range n).map fun (i : Nat) => (i : Int)
theorem numsI_succ (n : Nat) : numsI (n + 1) = numsI n ++ [(n : Int)] := by simp [numsI, List.range_succ]
theorem numsI_len (n : Nat) : (numsI n).length = n := by simp [numsI]
end Go.Proofs.Ytniobbepliknmaa.V
/- Arguments that are grammars and automata, read; no condition. -/
namespace Go.Proofs.Ytniobbepliknmaa.V
open Go Go.ChangeShapes Go.RowKit
set_option linter.unusedVariables false
open Meas (meas)

/-- a struct with these fields: where they lie and of what type -/
def structIs (P : Program) (t : TypeId) (l : List (Nat × TypeId)) : Bool := match P.underlying t with
  | some (.struct fs) => fs.toList.map (fun f => (f.offset, f.type)) == l
  | _ => false
theorem structIs_some {P : Program} {t : TypeId} {l : List (Nat × TypeId)} (h : structIs P t l = true) : ∃ fs : Array Field, P.underlying t = some (.struct fs) ∧ fs.toList.map (fun f => (f.offset, f.type)) = l := by
  unfold structIs at h
  split at h
  · rename_i fs hu
    exact ⟨fs, hu, by simpa using h⟩
  · cases h
theorem trod_fields {P : Program} {t : TypeId} {l : List (Nat × TypeId)} (ht : structIs P t l = true) {H : Type} {enc : TypeId × Value → H} {w : World} {fuel : Nat} {cs : List Value} {x : DataW H × List MemPlace}
    (hx : DataW.trod enc P w 0 (fun _ => true) true fuel t cs = some x) :
    ∃ (xs : List (DataW H × List MemPlace)) (n : Nat), fuel = n + 1 ∧ x.1 = .agg (xs.map (·.1)) ∧ cs.length = P.cellsOf t ∧ xs.length = l.length ∧
      ∀ (i o : Nat) (ty : TypeId), l[i]? = some (o, ty) → DataW.trod enc P w 0 (fun _ => true) true n ty ((cs.drop o).take (P.cellsOf ty)) = xs[i]? := by
  obtain ⟨fs, hu, hl⟩ := structIs_some ht
  obtain ⟨xs, n, h0, rfl, h1, h2, h3⟩ := DataW.trod_struct hu hx
  refine ⟨xs, n, h0, rfl, h1, by rw [← hl, h2]; simp, fun i o ty hi => ?_⟩
  rw [← hl, List.getElem?_map, Option.map_eq_some_iff] at hi
  obtain ⟨f, hf, e⟩ := hi
  simp only [Prod.mk.injEq] at e
  obtain ⟨rfl, rfl⟩ := e
  exact h3 i f (by simpa using hf)
theorem bulk_le {H : Type} {xs : List (DataW H × List MemPlace)} {y : DataW H × List MemPlace} (h : y ∈ xs) : Rows.uptoBulk y.1 ≤ Rows.uptoBulkAll (xs.map (·.1)) := bulk_mem (List.mem_map.2 ⟨y, h, rfl⟩)

instance : Meas Sy := ⟨fun _ => 3⟩
instance : Meas Ru := ⟨fun r => measL r.r + 3⟩
instance : Meas Gr := ⟨fun g => measL g.rs + 5⟩
instance : Meas Da := ⟨fun d => measL d.ac + measL d.nx + 4⟩

theorem reads_sy {P : Program} {t tb ti : TypeId} (ht : structIs P t [(0, tb), (1, ti)] = true) (hc : P.cellsOf t = 2) (hb : P.underlying tb = some .bool) (hi : P.underlying ti = some (.int .i64)) (hcb : P.cellsOf tb = 1) (hci : P.cellsOf ti = 1) : Reads P Sy t := by
  intro H enc w fuel cs x hx hbulk
  obtain ⟨xs, n, rfl, hx1, hl, hxl, hf⟩ := trod_fields ht hx
  rw [hc] at hl
  match xs, hxl, cs, hl with
  | [y0, y1], _, [c0, c1], _ =>
    have h0 := hf 0 0 tb rfl
    have h1 := hf 1 1 ti rfl
    rw [hcb] at h0
    rw [hci] at h1
    obtain ⟨b, e0, q0⟩ := DataW.trod_bool hb h0
    obtain ⟨m, e1, q1, _⟩ := DataW.trod_int hi h1
    simp at e0 e1
    subst e0 e1
    refine ⟨⟨b, m⟩, rfl, ?_⟩
    rw [hx1, q0, q1]
    simp [meas, Rows.uptoBulk, Rows.uptoBulkAll]
theorem reads_ru {P : Program} {t ti tl : TypeId} (ht : structIs P t [(0, ti), (1, tl)] = true) (hc : P.cellsOf t = 2) (hi : P.underlying ti = some (.int .i64)) (hci : P.cellsOf ti = 1) (hcl : P.cellsOf tl = 1) (hl' : Reads P (List Sy) tl) : Reads P Ru t := by
  intro H enc w fuel cs x hx hbulk
  obtain ⟨xs, n, rfl, hx1, hl, hxl, hf⟩ := trod_fields ht hx
  rw [hc] at hl
  rw [hx1] at hbulk ⊢
  match xs, hxl, cs, hl with
  | [y0, y1], _, [c0, c1], _ =>
    have h0 := hf 0 0 ti rfl
    have h1 := hf 1 1 tl rfl
    rw [hci] at h0
    rw [hcl] at h1
    obtain ⟨m, e0, q0, _⟩ := DataW.trod_int hi h0
    simp only [List.map_cons, List.map_nil, Rows.uptoBulk, Rows.uptoBulkAll] at hbulk
    obtain ⟨ls, h2, h3⟩ := hl' H enc w n _ _ h1 (by omega)
    obtain ⟨A, c, e1, h4⟩ := h2
    simp at e0 e1
    subst e0 e1
    refine ⟨⟨m, ls⟩, ⟨A, c, rfl, h4⟩, ?_⟩
    rw [q0]
    simp only [meas, List.map_cons, List.map_nil, Rows.uptoBulk, Rows.uptoBulkAll] at h3 ⊢
    omega
theorem reads_gr {P : Program} {t ti tl : TypeId} (ht : structIs P t [(0, ti), (1, ti), (2, ti), (3, tl)] = true) (hc : P.cellsOf t = 4) (hi : P.underlying ti = some (.int .i64)) (hci : P.cellsOf ti = 1) (hcl : P.cellsOf tl = 1) (hl' : Reads P (List Ru) tl) : Reads P Gr t := by
  intro H enc w fuel cs x hx hbulk
  obtain ⟨xs, n, rfl, hx1, hl, hxl, hf⟩ := trod_fields ht hx
  rw [hc] at hl
  rw [hx1] at hbulk ⊢
  match xs, hxl, cs, hl with
  | [y0, y1, y2, y3], _, [c0, c1, c2, c3], _ =>
    have h0 := hf 0 0 ti rfl
    have h1 := hf 1 1 ti rfl
    have h2 := hf 2 2 ti rfl
    have h3 := hf 3 3 tl rfl
    rw [hci] at h0 h1 h2
    rw [hcl] at h3
    obtain ⟨m0, e0, q0, _⟩ := DataW.trod_int hi h0
    obtain ⟨m1, e1, q1, _⟩ := DataW.trod_int hi h1
    obtain ⟨m2, e2, q2, _⟩ := DataW.trod_int hi h2
    simp only [List.map_cons, List.map_nil, Rows.uptoBulk, Rows.uptoBulkAll] at hbulk
    obtain ⟨ls, h4, h5⟩ := hl' H enc w n _ _ h3 (by omega)
    obtain ⟨A, c, e3, h6⟩ := h4
    simp at e0 e1 e2 e3
    subst e0 e1 e2 e3
    refine ⟨⟨m0, m1, m2, ls⟩, ⟨A, c, rfl, h6⟩, ?_⟩
    rw [q0, q1, q2]
    simp only [meas, List.map_cons, List.map_nil, Rows.uptoBulk, Rows.uptoBulkAll] at h5 ⊢
    omega
theorem reads_da {P : Program} {t ti tl tn : TypeId} (ht : structIs P t [(0, ti), (1, tl), (2, tn)] = true) (hc : P.cellsOf t = 3) (hi : P.underlying ti = some (.int .i64)) (hci : P.cellsOf ti = 1) (hcl : P.cellsOf tl = 1) (hcn : P.cellsOf tn = 1) (hl' : Reads P (List Int) tl) (hn' : Reads P (List (List Int)) tn) : Reads P Da t := by
  intro H enc w fuel cs x hx hbulk
  obtain ⟨xs, n, rfl, hx1, hl, hxl, hf⟩ := trod_fields ht hx
  rw [hc] at hl
  rw [hx1] at hbulk ⊢
  match xs, hxl, cs, hl with
  | [y0, y1, y2], _, [c0, c1, c2], _ =>
    have h0 := hf 0 0 ti rfl
    have h1 := hf 1 1 tl rfl
    have h2 := hf 2 2 tn rfl
    rw [hci] at h0
    rw [hcl] at h1
    rw [hcn] at h2
    obtain ⟨m0, e0, q0, _⟩ := DataW.trod_int hi h0
    simp only [List.map_cons, List.map_nil, Rows.uptoBulk, Rows.uptoBulkAll] at hbulk
    obtain ⟨ls, h4, h5⟩ := hl' H enc w n _ _ h1 (by omega)
    obtain ⟨ns, h6, h7⟩ := hn' H enc w n _ _ h2 (by omega)
    obtain ⟨A, c, e1, h8⟩ := h4
    obtain ⟨B, d, e2, h9⟩ := h6
    simp at e0 e1 e2
    subst e0 e1 e2
    refine ⟨⟨m0, ls, ns⟩, ⟨A, c, B, d, rfl, h8, h9⟩, ?_⟩
    rw [q0]
    simp only [meas, List.map_cons, List.map_nil, Rows.uptoBulk, Rows.uptoBulkAll] at h5 h7 ⊢
    omega
def isStruct (P : Program) (t : TypeId) : Bool := match P.underlying t with
  | some (.struct _) => true
  | _ => false
theorem arg_st {P : Program} {t : TypeId} {α : Type} [Rep α] [Meas α] (ht : isStruct P t = true) (hr : Reads P α t) {r : Reach} {b0 : Nat} {w : World} {v : Value} {H : Type} {enc : TypeId × Value → H} {d : DataW H} {p : List MemPlace}
    (hval : Value.okWide P w r b0 t v) (hd : DataW.Trod enc P w 0 (fun _ => true) true t v d p) (hb : Rows.uptoBulk d ≤ 1048576) :
    ∃ (x : α) (cs : List Value), v = .agg cs.toArray ∧ Rep.ok (lk [phOf w]) x cs ∧ meas x ≤ Rows.uptoBulk d := by
  unfold isStruct at ht
  split at ht
  · rename_i fs hu
    exact arg_agg hu hr hval hd hb
  · cases ht
theorem try_ints : Reads Try.prog (List Int) 29 := reads_list (e := 3) (by kernel_rfl) (by kernel_rfl) (by decide) (reads_int (by kernel_rfl))
theorem try_intss : Reads Try.prog (List (List Int)) 65 := reads_list (e := 29) (by kernel_rfl) (by kernel_rfl) (by decide) try_ints
theorem try_sys : Reads Try.prog (List Sy) 35 := reads_list (e := 39) (by kernel_rfl) (by kernel_rfl) (by decide) (reads_sy (tb := 4) (ti := 3) (by kernel_rfl) (by kernel_rfl) (by kernel_rfl) (by kernel_rfl) (by kernel_rfl) (by kernel_rfl))
theorem try_rus : Reads Try.prog (List Ru) 32 := reads_list (e := 37) (by kernel_rfl) (by kernel_rfl) (by decide) (reads_ru (ti := 3) (tl := 35) (by kernel_rfl) (by kernel_rfl) (by kernel_rfl) (by kernel_rfl) (by kernel_rfl) try_sys)
theorem try_gr : Reads Try.prog Gr 57 := reads_gr (ti := 3) (tl := 32) (by kernel_rfl) (by kernel_rfl) (by kernel_rfl) (by kernel_rfl) (by kernel_rfl) try_rus
theorem try_da : Reads Try.prog Da 67 := reads_da (ti := 3) (tl := 29) (tn := 65) (by kernel_rfl) (by kernel_rfl) (by kernel_rfl) (by kernel_rfl) (by kernel_rfl) (by kernel_rfl) try_ints try_intss
end Go.Proofs.Ytniobbepliknmaa.V
