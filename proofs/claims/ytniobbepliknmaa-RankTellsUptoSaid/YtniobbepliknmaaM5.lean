/- Texts put together, in the order in which they build; each says what it proves; no condition. -/
import Derived.Test.YtniobbepliknmaaM4
import Derived.Test.YtniobbepliknmaaM1
import Derived.Test.YtniobbepliknmaaProg
import Derived.Test.YtniobbepliknmaaM3
import Derived.Test.YtniobbepliknmaaM2
import Derived.ChangeKeysEq
namespace Go.Proofs.Ytniobbepliknmaa.V
open Go
set_option linter.unusedVariables false
set_option linter.unusedSimpArgs false
open Nat renaming reduceBEq → zA, reduceAdd → zB, reduceSub → zC, reduceMul → zD, reduceLeDiff → zE
open Int renaming reduceLT → zF, reduceLE → zG, reduceEq → zH, reduceNe → zI
/- census: what find and loops leave makes a table that tells the truth; no condition. -/
def HX (g : Gr) (n : Nat) (H : List (List Bool)) : Prop := ∀ (a : Int) k, 0 ≤ a → k ≤ n → (mat H a.toNat k = true ↔ 0 < cntT g (mostN g n) a k)
theorem HX.sym {g : Gr} {n : Nat} {H : List (List Bool)} (hx : HX g n H) {s : Sy} (hs : 0 ≤ s.n) {k : Nat} (hk : k ≤ n) : symB H s k = true ↔ 0 < symT (cntT g (mostN g n)) s k := by
 unfold symB symT
 split
 ·by_cases e : k = 1 <;> simp [e]
 ·exact hx _ _ hs hk
theorem HX.row {g : Gr} {n : Nat} {H : List (List Bool)} (hx : HX g n H) : ∀ {l : List Sy} {k : Nat}, (∀ s ∈ l, 0 ≤ s.n) → k ≤ n → (RowH H l k ↔ 0 < rowT (cntT g (mostN g n)) l k)
 | [], k, _, _ => by
  show k = 0 ↔ 0 < (if k = 0 then 1 else 0)
  by_cases e : k = 0 <;> simp [e]
 | s :: l, k, h0, hk => by
  rw [row_pos]
  constructor
  ·rintro ⟨j, h1, h2, h3⟩
   exact ⟨j, h1, (hx.sym (h0 s (by simp)) (by omega)).1 h2, (hx.row (fun s hs => h0 s (by simp [hs])) (by omega)).1 h3⟩
  ·rintro ⟨j, h1, h2, h3⟩
   exact ⟨j, h1, (hx.sym (h0 s (by simp)) (by omega)).2 h2, (hx.row (fun s hs => h0 s (by simp [hs])) (by omega)).2 h3⟩
theorem hx_of {g : Gr} (V : VG g) {n : Nat} {H : List (List Bool)} {E : List (List (List Bool))} (hs : HasS g H) (hE : EndsI g n H E) (hd : DoneR g n H E g.rs.length) : HX g n H := by
 intro a k ha hk
 refine ⟨fun h => ?_, fun h => ?_⟩
 ·obtain ⟨x, hx⟩ := hs _ _ h
  rw [Int.toNat_of_nonneg ha] at hx
  exact cnt_pos V x hk hx
 ·refine has_complete V (fun r hr => ?_) _ a k hk h
  obtain ⟨i, hi, rfl⟩ := List.getElem_of_mem hr
  exact (hd i _ _ hi (List.getElem?_eq_getElem (by rw [hE.1]; exact hi)) (List.getElem?_eq_getElem hi)).2
theorem row_zero {H : List (List Bool)} : ∀ {l : List Sy}, RowH H l 0 ↔ ∀ s ∈ l, symB H s 0 = true
 | [] => by simp [RowH]
 | s :: l => by
  constructor
  ·rintro ⟨j, h1, h2, h3⟩
   have : j = 0 := by omega
   subst this
   intro x hx
   rcases List.mem_cons.1 hx with rfl | hx
   ·exact h2
   ·exact row_zero.1 h3 x hx
  ·intro h
   exact ⟨0, Nat.le_refl _, h s (by simp), row_zero.2 fun x hx => h x (by simp [hx])⟩
theorem less_of_ed {g : Gr} {n : Nat} {H L : List (List Bool)} (hx : HX g n H) {b : Int} {j : Nat} (hL : mat L b.toNat j = true) : ∀ {l : List Sy} {k : Nat}, (∀ s ∈ l, 0 ≤ s.n) → k ≤ n → EdR (cntT g (mostN g n)) l k b j → LessP H L l k
 | [], _, _, _, h => h.elim
 | s :: l, k, h0, hk, ⟨i, h1, h2, h3, h4⟩ => by
  refine ⟨i, h1, (hx.sym (h0 s (by simp)) (by omega)).2 h2, (hx.row (fun s hs => h0 s (by simp [hs])) (by omega)).2 h3, ?_⟩
  rcases h4 with ⟨q1, q2, q3⟩ | h4
  ·exact .inl ⟨q1, by rw [q2, q3]; exact hL⟩
  ·exact .inr (less_of_ed hx hL (fun s hs => h0 s (by simp [hs])) (by omega) h4)
theorem ed_of_less {g : Gr} {n : Nat} {H L : List (List Bool)} (hx : HX g n H) : ∀ {l : List Sy} {k : Nat}, (∀ s ∈ l, 0 ≤ s.n) → k ≤ n → LessP H L l k → ∃ b j, EdR (cntT g (mostN g n)) l k b j ∧ LpI L b j
 | [], _, _, _, h => h.elim
 | s :: l, k, h0, hk, ⟨i, h1, h2, h3, h4⟩ => by
  have q2 := (hx.sym (h0 s (by simp)) (by omega)).1 h2
  have q3 := (hx.row (fun s hs => h0 s (by simp [hs])) (by omega)).1 h3
  rcases h4 with ⟨w1, w2⟩ | h4
  ·exact ⟨s.n, i, ⟨i, h1, q2, q3, .inl ⟨w1, rfl, rfl⟩⟩, h0 s (by simp), w2⟩
  ·obtain ⟨b, j, w1, w2⟩ := ed_of_less hx (fun s hs => h0 s (by simp [hs])) (by omega) h4
   exact ⟨b, j, ⟨i, h1, q2, q3, .inr w1⟩, w2⟩
theorem same_of_ed {g : Gr} {n : Nat} {H : List (List Bool)} (hx : HX g n H) {b k : Nat} : ∀ {l : List Sy}, (∀ s ∈ l, 0 ≤ s.n) → k ≤ n → EdR (cntT g (mostN g n)) l k (b : Int) k → SameR H k l l.length b
 | [], _, _, h => h.elim
 | s :: l, h0, hk, ⟨i, h1, h2, h3, h4⟩ => by
  have q2 := (hx.sym (h0 s (by simp)) (by omega)).2 h2
  have q3 := (hx.row (fun s hs => h0 s (by simp [hs])) (by omega)).2 h3
  rcases h4 with ⟨w1, w2, w3⟩ | h4
  ·subst w3
   rw [Nat.sub_self] at q3
   have hz := row_zero.1 q3
   refine ⟨0, s, by simp, rfl, w1, w2, ?_, fun j s' hj hne => ?_⟩
   ·simp only [symB, w1] at q2
    rw [w2] at q2
    simpa using q2
   ·cases j with
    | zero => exact absurd rfl hne
    | succ j => exact hz s' (List.mem_of_getElem? (by simpa using hj))
  ·have hle := h4.pos.2.1
   have hi0 : i = 0 := by omega
   subst hi0
   rw [Nat.sub_zero] at h4
   obtain ⟨p, t, e1, e2, e3, e4, e5, e6⟩ := same_of_ed hx (fun s hs => h0 s (by simp [hs])) hk h4
   refine ⟨p + 1, t, by simpa using e1, by simpa using e2, e3, e4, e5, fun j s' hj hne => ?_⟩
   cases j with
   | zero =>
    simp at hj
    subst hj
    exact q2
   | succ j => exact e6 j s' (by simpa using hj) (by omega)
theorem ed_of_same {g : Gr} {n : Nat} {H : List (List Bool)} (hx : HX g n H) {b k : Nat} : ∀ {l : List Sy}, (∀ s ∈ l, 0 ≤ s.n) → k ≤ n → SameR H k l l.length b → EdR (cntT g (mostN g n)) l k (b : Int) k
 | [], _, _, ⟨p, t, e1, e2, _⟩ => by simp at e2
 | s :: l, h0, hk, ⟨p, t, e1, e2, e3, e4, e5, e6⟩ => by
  have hl0 : ∀ s ∈ l, 0 ≤ s.n := fun s hs => h0 s (by simp [hs])
  cases p with
  | zero =>
   simp at e2
   subst e2
   have hz : RowH H l 0 := row_zero.2 fun x hx => by
    obtain ⟨j, hj⟩ := List.getElem?_of_mem hx
    exact e6 (j + 1) x (by simpa using hj) (by omega)
   refine ⟨k, Nat.le_refl _, (hx.sym (h0 s (by simp)) hk).1 (by simp only [symB, e3]; rw [e4]; simpa using e5), by rw [Nat.sub_self]; exact (hx.row hl0 (by omega)).1 hz, .inl ⟨e3, e4, rfl⟩⟩
  | succ p =>
   have ih := ed_of_same hx (l := l) hl0 hk ⟨p, t, by simp at e1; omega, by simpa using e2, e3, e4, e5, fun j s' hj hne => e6 (j + 1) s' (by simpa using hj) (by omega)⟩
   refine ⟨0, Nat.zero_le _, (hx.sym (h0 s (by simp)) (by omega)).1 (e6 0 s rfl (by omega)), by rw [Nat.sub_zero]; exact ih.row, .inr (by rw [Nat.sub_zero]; exact ih)⟩
theorem same_ed {g : Gr} (V : VG g) {n : Nat} {H : List (List Bool)} (hx : HX g n H) {a b k : Nat} (hk : k ≤ n) : SameE g H k g.rs.length a b ↔ Ed g (mostN g n) a k b k := by
 unfold SameE Ed
 rw [List.take_length]
 constructor
 ·rintro ⟨r, h1, h2, h3⟩
  exact ⟨r, h1, h2, ed_of_same hx (fun s hs => (V.sym r h1 s hs).1) hk h3⟩
 ·rintro ⟨r, h1, h2, h3⟩
  exact ⟨r, h1, h2, same_of_ed hx (fun s hs => (V.sym r h1 s hs).1) hk h3⟩
theorem loop_of {g : Gr} (V : VG g) {n : Nat} {H L : List (List Bool)} (hx : HX g n H) (hI : LoopI g n H L) (hD : DoneL g n H L g.rs.length) : LoopS g n (LpI L) := by
 have hns := V.ns
 have left : ∀ {a : Int} {k : Nat} {b : Int} {j : Nat}, Ed g (mostN g n) a k b j → 0 ≤ a ∧ a < g.ns ∧ 0 ≤ b ∧ b < g.ns := by
  rintro a k b j ⟨r, h1, h2, h3⟩
  obtain ⟨_, _, s, h4, h5, h6⟩ := h3.pos
  have := V.left r h1
  have := V.sym r h1 s h4
  exact ⟨by omega, by omega, by omega, by have := this.2.2 h5; omega⟩
 refine ⟨fun a k hk h => ?_, fun a k hk h => ?_, fun a k b j hk he hb => ?_⟩
 ·obtain ⟨h0, h⟩ := h
  obtain ⟨m, rfl⟩ : ∃ m : Nat, a = m := ⟨a.toNat, by omega⟩
  rw [Int.toNat_natCast] at h
  rcases hI.snd m k h with hc | ⟨r, h1, h2, h3⟩
  ·have first : ∀ {x y : Nat}, PathK (SameE g H k g.rs.length) g.ns.toNat x y → ∃ b, SameE g H k g.rs.length x b ∧ (b = y ∨ PathK (SameE g H k g.rs.length) g.ns.toNat b y) := by
    intro x y hp
    induction hp with
    | one e => exact ⟨_, e, .inl rfl⟩
    | @trans x m y _ hm hp2 ih1 _ =>
     obtain ⟨b, q1, q2⟩ := ih1
     refine ⟨b, q1, .inr ?_⟩
     rcases q2 with rfl | q2
     ·exact hp2
     ·exact .trans q2 hm hp2
   obtain ⟨b, q1, q2⟩ := first hc
   have he := (same_ed V hx hk).1 q1
   have hl := left he
   refine ⟨b, k, he, by omega, ?_⟩
   rw [Int.toNat_natCast]
   refine hI.cyc b k hk ?_
   rcases q2 with rfl | q2
   ·exact hc
   ·exact .trans q2 (by omega) (.one q1)
  ·obtain ⟨b, j, q1, q2⟩ := ed_of_less hx (fun s hs => (V.sym r h1 s hs).1) hk h3
   exact ⟨b, j, ⟨r, h1, h2, q1⟩, q2⟩
 ·have hle : ∀ {b : Int} {j : Nat}, EdP g (mostN g n) a k b j → j ≤ k ∧ 0 ≤ a ∧ 0 ≤ b ∧ a < g.ns ∧ b < g.ns := by
   intro b j hp
   induction hp with
   | one e => have := e.le; have := left e; omega
   | step _ e ih => have := e.le; have := left e; omega
  have path : ∀ {b : Int} {j : Nat}, EdP g (mostN g n) a k b j → j = k → PathK (SameE g H k g.rs.length) g.ns.toNat a.toNat b.toNat := by
   intro b j hp
   induction hp with
   | @one b j e =>
    intro hj
    subst hj
    have := left e
    refine .one ((same_ed V hx hk).2 ?_)
    rw [Int.toNat_of_nonneg (by omega), Int.toNat_of_nonneg (by omega)]
    exact e
   | @step b j c i hp e ih =>
    intro hj
    subst hj
    have h1 := hle hp
    have h2 := e.le
    have h3 := left e
    have hj : j = i := by omega
    subst hj
    refine .trans (ih rfl) (by omega) (.one ((same_ed V hx hk).2 ?_))
    rw [Int.toNat_of_nonneg (by omega), Int.toNat_of_nonneg (by omega)]
    exact e
  have := hle h
  exact ⟨this.2.1, hI.cyc _ _ hk (path h rfl)⟩
 ·have hl := left he
  obtain ⟨r, h1, h2, h3⟩ := he
  have hless := less_of_ed hx hb.2 (fun s hs => (V.sym r h1 s hs).1) hk h3
  obtain ⟨i, hi, rfl⟩ := List.getElem_of_mem h1
  refine ⟨by omega, ?_⟩
  rw [← h2]
  exact hD i _ hi (List.getElem?_eq_getElem hi) k hk hless
theorem tabP_of {g : Gr} (V : VG g) {n : Nat} (hn : n ≤ 24) {H L : List (List Bool)} {E : List (List (List Bool))} (hS : Shp g.ns.toNat (n + 1) H) (hSL : Shp g.ns.toNat (n + 1) L) (hs : HasS g H) (hE : EndsI g n H E) (hd : DoneR g n H E g.rs.length) (hI : LoopI g n H L) (hD : DoneL g n H L g.rs.length) : TabP g n H L E :=
 ⟨V, hn, hS, hSL, hE, hd, hx_of V hs hE hd, loop_of V (hx_of V hs hE hd) hI hD⟩
/- The text of parlance/census.Trees as a statement; no condition. -/
def S79_1 : Stmt :=
 .seq
 (.region [oq 40 (.ibin .lss (.tmp 39) (.tmp 38))]
 [1,7,8,9,33,34,38,39,40])
 (.seq (.cond (.tmp 40) .skip (.exit 2))
 (.seq
 (.block 3
 (.seq
 (.region
 [oq 41 (.mv (.tmp 39)),oq 10 (.mv (.tmp 41))]
 [1,7,8,9,10,33,34,38,39])
 (.tree
 (.q (false,oq 42 (.mv (.tmp 8)))
 (.q (false,oq 43 (.mv (.tmp 9)))
 (.q (false,oq 44 (.mv (.tmp 8)))
 (.q (false,oq 45 (.mv (.tmp 9)))
 (.q (false,oq 48 (.mv (.tmp 7)))
 (.q (false,oq 49 (.mv (.tmp 9)))
 (.q (false,oq 50 (.mv (.tmp 10)))
 (.q (false,oq 46 (.idx 1 (.tmp 44) (.tmp 45)))
 (.alt (false,oq 47 (.load false 1 (.tmp 46)))
 (.alt
 (false,
 .mk (some 51) none
 (.call (.func 150) [.tmp 48,.tmp 49,.tmp 50]))
 (.alt
 (false,
 .mk (some 52) none
 (.buildS 3 1 [.int .i64 0] [(0,1,.tmp 51)]))
 (.alt
 (false,
 .mk (some 53) none
 (.append 29 3 1 8 (.int .i64 0) (.tmp 47)
 (.tmp 52)))
 (.q (false,oq 54 (.idx 1 (.tmp 42) (.tmp 43)))
 (.alt
 (false,.mk none none (.store 1 (.tmp 54) (.tmp 53)))
 .fin .no))
 .no)
 .no)
 .no)
 (.alt
 (false,
 .mk (some 51) none
 (.call (.func 150) [.tmp 48,.tmp 49,.tmp 50]))
 (.alt (false,oq 47 (.load false 1 (.tmp 46)))
 (.alt
 (false,
 .mk (some 52) none
 (.buildS 3 1 [.int .i64 0] [(0,1,.tmp 51)]))
 (.alt
 (false,
 .mk (some 53) none
 (.append 29 3 1 8 (.int .i64 0) (.tmp 47)
 (.tmp 52)))
 (.q
 (false,oq 54 (.idx 1 (.tmp 42) (.tmp 43)))
 (.alt
 (false,.mk none none (.store 1 (.tmp 54) (.tmp 53)))
 .fin .no))
 .no)
 .no)
 (.alt
 (false,
 .mk (some 52) none
 (.buildS 3 1 [.int .i64 0] [(0,1,.tmp 51)]))
 (.alt (false,oq 47 (.load false 1 (.tmp 46)))
 (.alt
 (false,
 .mk (some 53) none
 (.append 29 3 1 8 (.int .i64 0) (.tmp 47)
 (.tmp 52)))
 (.q
 (false,oq 54 (.idx 1 (.tmp 42) (.tmp 43)))
 (.alt
 (false,.mk none none (.store 1 (.tmp 54) (.tmp 53)))
 .fin .no))
 .no)
 .no)
 .no))
 .no))))))))))
 [1,7,8,9,33,34,38,39])))
 (.region
 [oq 55 (.ibin .add (.tmp 39) (.const (.int .i64 1))),
 oq 39 (.mv (.tmp 55))]
 [1,7,8,9,33,34,38,39])))
def S79_2 : Stmt :=
 .seq
 (.region [oq 35 (.ibin .lss (.tmp 34) (.tmp 33))] [1,7,8,33,34,35])
 (.seq (.cond (.tmp 35) .skip (.exit 0))
 (.seq
 (.block 1
 (.seq
 (.region
 [oq 36 (.mv (.tmp 34)),oq 9 (.mv (.tmp 36))]
 [1,7,8,9,33,34])
 (.seq
 (.region
 [oq 37 (.mv (.tmp 1)),
 oq 38 (.ibin .add (.tmp 37) (.const (.int .i64 1))),
 oq 39 (.mv (.const (.int .i64 0)))]
 [1,7,8,9,33,34,38,39])
 (.block 2 (.loop S79_1 [39] [1,7,8,9,33,34,38])))))
 (.region
 [oq 56 (.ibin .add (.tmp 34) (.const (.int .i64 1))),
 oq 34 (.mv (.tmp 56))]
 [1,7,8,33,34])))
def S79_0 : Stmt :=
 .seq
 (.region
 [oq 2 (.box true 57 (.tmp 0)),
 oq 4 (.mv (.const (.slice none 0 0))),
 oq 5 (.mv (.const (.int .i64 0)))]
 [1,2])
 (.seq
 (.seq
 (.region
 [oq 11 (.load true 4 (.tmp 2)),
 oq 12 (.call (.func 112) [.tmp 11]),
 oq 6 (.mv (.tmp 12))]
 [1,2,6])
 (.seq
 (.region
 [oq 13 (.mv (.tmp 6)),
 oq 14 (.ibin .neq (.tmp 13) (.const (.int .i64 0)))]
 [1,2,6,14])
 (.cond (.tmp 14)
 (.seq
 (.region
 [oq 15 (.mv (.tmp 6)),
 oq 4 (.mv (.const (.slice none 0 0))),
 oq 5 (.mv (.tmp 15))]
 [4,5])
 .ret)
 .skip)))
 (.seq
 (.seq
 (.region
 [oq 16 (.mv (.tmp 1)),
 oq 17 (.ibin .lss (.tmp 16) (.const (.int .i64 0))),
 oq 18 (.mv (.tmp 17)),
 .mk (some 19) (some (18,false)) (.mv (.tmp 1)),
 .mk (some 20) (some (18,false))
 (.ibin .gtr (.tmp 19) (.const (.int .i64 24))),
 oq 21 (.pick (.tmp 18) (.const (.bool true)) (.tmp 20))]
 [1,2,21])
 (.cond (.tmp 21)
 (.seq
 (.region
 [oq 4 (.mv (.const (.slice none 0 0))),
 oq 5 (.mv (.const (.int .i64 1)))]
 [4,5])
 .ret)
 .skip))
 (.seq
 (.region
 [oq 22 (.load true 4 (.tmp 2)),oq 23 (.mv (.tmp 1)),
 oq 24 (.call (.func 147) [.tmp 22,.tmp 23]),
 oq 7 (.mv (.tmp 24))]
 [1,2,7])
 (.seq
 (.region
 [oq 25 (.mv (.tmp 7)),
 oq 26 (.call (.func 148) [.tmp 25])]
 [1,2,7])
 (.seq
 (.region
 [oq 27 (.mv (.tmp 7)),
 oq 28 (.call (.func 149) [.tmp 27])]
 [1,2,7])
 (.seq
 (.region
 [oq 29 (.fld 1 (.tmp 2)),
 oq 30 (.load false 1 (.tmp 29)),
 oq 31 (.mk 29 1 24 (.slice none 0 0) (.tmp 30) (.tmp 30)),
 oq 8 (.mv (.tmp 31))]
 [1,7,8])
 (.seq
 (.seq
 (.region
 [oq 32 (.mv (.tmp 8)),
 oq 33 (.len false (.tmp 32)),
 oq 34 (.mv (.const (.int .i64 0)))]
 [1,7,8,33,34])
 (.block 0 (.loop S79_2 [34] [1,7,8,33])))
 (.seq
 (.region
 [oq 57 (.mv (.tmp 8)),oq 4 (.mv (.tmp 57)),
 oq 5 (.mv (.const (.int .i64 0)))]
 [4,5])
 .ret))))))))
def S79 : FnS := ⟨58,[(4,none),(5,none)],S79_0⟩
theorem tr79 : trFn Try.prog 79 [2] [[1,2],[1,2,6],[1,2,6,14],[4,5],[1,2,21],[4,5],[1,2,7],[1,2,7],[1,2,7],[1,7,8],[1,7,8,33,34],[34],[1,7,8,33],[1,7,8,33,34,35],[1,7,8,9,33,34],[1,7,8,9,33,34,38,39],[39],[1,7,8,9,33,34,38],[1,7,8,9,33,34,38,39,40],[1,7,8,9,10,33,34,38,39],[1,7,8,9,33,34,38,39],[],[2,0,2,1,2,2,2,3,2,6,2,7,2,8,2,4,3,5,3,9,3,10,3,11,2,12,3,13,0,1,1,1,1,3,9,3,5,3,10,3,11,2,12,3,13,0,1,1,1,3,10,3,5,3,11,2,12,3,13,0,1,1,1,1,1],[],[],[],[],[],[2,3],[2,3,4],[],[],[],[6,7,8],[6,7,8,9],[2,3,4,5,6,7,8,9,10],[0,1,2,3,4,5,6,7,8,9,10,11],[0,1,2,3,4,5,6,7,8,9,10,11,12],[1,7,8,9,33,34,38,39],[1,7,8,33,34],[4,5]] = some S79 := by kernel_rfl
/- census.Trees walked; no condition. -/
attribute [local go_sem] e_seq e_region e_quiet e_join e_loop e_cond e_block e_exit e_ret e_skip e_fin e_kseq e_snrm e_sret e_sex e_bnrm e_bret e_bex e_rnrm e_rret e_res e_condC e_nil e_g e_mv g_mv e_pick g_pick pickC_eq e_ibin g_ibin ibinC_eq e_sbin g_sbin e_beq g_beq beqC_eq e_nilq g_nilq nilqC_sl nilqC_pt nilqC_mp e_un g_un unC_not unC_neg e_conv g_conv convC_eq e_fld g_fld fldC_ref fldC_ptr e_nilCheck g_nilCheck nilCheckC_ref nilCheckC_ptr nilCheckC_fun e_field g_field fieldC_eq e_len g_len lenC_sl lenC_str e_extract g_extract extractC_eq e_mkFunc e_build g_build e_idiv g_idiv idivC_eq e_ishift g_ishift ishiftC_eq e_idx g_idx e_idxA g_idxA e_load g_load e_loadB g_loadB atB_ref atB_v g_mkFunc loadC_ref loadC_ptr loadB_eq e_slc g_slc e_box boxC_loc boxC_esc e_alloc allocC_loc allocC_esc e_buildS e_store storeC_ref storeC_ptr storeB_eq e_append e_appz e_mk mkC_eq e_call callC_eq e_fn g_fn fnC_eq fnV_min' fnV_max' fnV_rune' e_q g_q e_a e_n g_call g_box g_alloc g_buildS g_store g_append g_mk g_a g_n g_dead e_dead e_callK e_drawn e_tree e_finJ e_tk e_tfin e_tno e_nbt_q e_nbt_qn e_nbt_a e_nbt_an e_nbt_fin e_drawnB e_bxb_nil e_bxb e_stB_none e_stB_some boxSt_store bs_mv bs_pick bs_ibin bs_idiv bs_ishift bs_sbin bs_beq bs_nilq bs_un bs_conv bs_box bs_alloc bs_build bs_buildS bs_load bs_fld bs_nilCheck bs_idx bs_idxA bs_field bs_slc bs_len bs_append bs_appz bs_mk bs_call bs_extract bs_mkFunc bs_fn bs_q bs_a bs_n bs_loadB bs_dead isBox_box e_early_nil e_early_t e_early_f e_nob_nil e_nob_none e_nob_some isBox_dead isBox_v isBox_ref e_dnil e_dk e_ek e_finB vcOps_vc1 e_dcons e_tq e_ekt e_tearly e_talt e_dearly look_nil look_c proj_nil proj_c looks_nil looks_c zip_nil zip_c val_tmp val_const val_func slv_v slv_box slv_ref slot_tmp slot_const slot_func slotL_v slotL_box slotL_ref put_some put_none updBox_c boxSet_box gd_eq slotVals_nil slotVals_c slotVals_b boxV_box boxOn_box slotsOn_nil slotsOn_c slotsOn_b resV_one resV_two vals_nil vals_c allOn_nil allOn_c partOn_nil partOn_c partVals_nil partVals_c fits_nil fits_c fillL_nil fillL_c mkv_one mkv_agg cellsV_agg cellsV_int cellsV_bool cellsV_slice cellsV_string cellsV_pointer cellsV_func cellsV_nilf cellsV_map one'_nil one'_c oc_int oc_bool oc_slice oc_string oc_pointer oc_func oc_nilf oc_map setC_eq iv_add iv_sub iv_mul iv_eql iv_neq iv_lss iv_leq iv_gtr iv_geq iok_add iok_sub iok_mul iok_eql iok_neq iok_lss iok_leq iok_gtr iok_geq pickV_bool args0_nil args0_c bnd_none bnd_some imp_bt imp_bf imp_ebt imp_ebf imp_eb1 imp_np imp_pp beq_tt beq_tf beq_ft beq_ff cond_or cond_and e_round e_meet Int.le_refl Int.toNat_zero decide_true decide_false Bool.or_false Bool.false_or Bool.true_or Bool.or_true Bool.and_false Bool.false_and Bool.bne_false Bool.bne_true beq_iff_eq Int.cast_ofNat_Int not_false_eq_true not_true_eq_false false_and and_false false_implies true_implies true_and and_true Bool.true_and Bool.and_true Bool.not_true Bool.not_false forall_const implies_true List.take_zero List.drop_zero List.take_succ_cons List.drop_succ_cons List.take_nil List.drop_nil List.length_cons List.length_nil List.nil_append List.append_nil List.cons_append Int.toNat_natCast decide_eq_true_eq decide_eq_false_iff_not cond_true cond_false and_self List.getElem?_cons_zero List.getElem?_cons_succ List.set_cons_zero List.set_cons_succ Option.some.injEq exists_eq_left' Nat.zero_add Nat.add_zero Nat.mul_one imp_self true_or or_true or_false false_or Bool.or_eq_true Bool.or_eq_false_iff Bool.and_eq_true Bool.and_eq_false_iff Bool.not_eq_true' Bool.not_eq_false'

/-- the number of trees: -1 if there is no end of them, at most 1000000000 -/
def cenF (g : Gr) (n : Nat) (a k : Nat) : Int := if cntT g (mostN g n) a k < cntT g (2 * mostN g n + 2) a k then -1 else ((capN (cntT g (mostN g n) a k) : Nat) : Int)
def cenRow (g : Gr) (n : Nat) (a m : Nat) : List Int := (List.range m).map fun k => cenF g n a k
def cenRows (g : Gr) (n : Nat) (m : Nat) : List (List Int) := (List.range m).map fun a => cenRow g n a (n + 1)
theorem cenRow_succ (g : Gr) (n a m : Nat) : cenRow g n a (m + 1) = cenRow g n a m ++ [cenF g n a m] := by simp [cenRow, List.range_succ]
theorem cenRows_succ (g : Gr) (n m : Nat) : cenRows g n (m + 1) = cenRows g n m ++ [cenRow g n m (n + 1)] := by simp [cenRows, List.range_succ]
theorem cenF_okI (g : Gr) (n a k : Nat) : -1 ≤ cenF g n a k ∧ cenF g n a k ≤ 1000000000 := by
 unfold cenF
 have := capN_le (cntT g (mostN g n) a k)
 split <;> omega
def CntR (t : Tb) (g : Gr) (n : Nat) (x : Int) (v : Value) (Γ : Ctx) : Prop := ∃ gk gw K W, Γ = [gk, gw] ∧ v = .int .i64 x ∧ Grid gk t.bk 29 3 K ∧ KnI g n K ∧ Cube gw 29 3 t.bw W ∧ WyI g n W
theorem count_any {t : Tb} {g : Gr} {n : Nat} {R : Option Addr} {cR : Nat} {H L : List (List Bool)} {E : List (List (List Bool))} {ge : PH} (P : TabP g n H L E) {Γr : Ctx} {gk gw : PH} {K : List (List Int)} {W : List (List (List Int))} (hR : TabR Γr t g n R cR H L E ge)
  (hGk : Grid gk t.bk 29 3 K) (hK : KnI g n K) (hGw : Cube gw 29 3 t.bw W) (hW : WyI g n W) {a k : Nat} (ha : (a : Int) < g.ns) (hk : k ≤ n) :
  Ret Try.prog 150 [.pointer (some ⟨t.b, 0, none⟩), .int .i64 (a : Int), .int .i64 (k : Int)] Γr [gk, gw] (CntR t g n (cenF g n a k)) := by
 have V := P.V
 have hiff := P.lp.iff V (a := (a : Int)) hk
 by_cases hL : LpI L a k
 ·have hc : cenF g n a k = -1 := if_pos (hiff.1 hL)
  rw [hc]
  obtain ⟨b, j, he, _⟩ := P.lp.next _ _ hk hL
  have hpos := (he.pos V hk).1
  have hhas := (P.hx (a : Int) k (by omega) hk).2 hpos
  rw [Int.toNat_natCast] at hhas
  have hloop := hL.2
  rw [Int.toNat_natCast] at hloop
  generalize hRR : CntR t g n _ = R'
  refine ret_of_vc tr150 (Nat.le_of_ble_eq_true rfl) ?_
  simp -implicitDefEqProofs only [S150, S150_0, go_sem,zA,zB,zC,zD,zE,reduceCtorEq,↓reduceIte,zF,zG,zH,zI]
  have hT := hR.k
  have hHl := P.sh.1
  have hHr := P.sh.at' (i := a) (by omega)
  have hLl := P.sl.1
  have hLr := P.sl.at' (i := a) (by omega)
  obtain ⟨b1, o1, h1, A5, c5, hr5, hc5⟩ := hR.has.list (i := a) (by omega)
  obtain ⟨b6, o6, h6, hc6⟩ := hr5.bool (i := k) (by omega)
  have hgh := mat_get (List.getElem?_eq_getElem (show a < H.length by omega)) (show k < H[a].length by omega)
  obtain ⟨b7, o7, h7, A8, c8, hr8, hc8⟩ := hR.loop.list (i := a) (by omega)
  obtain ⟨b9, o9, h9, hc9⟩ := hr8.bool (i := k) (by omega)
  have hgl := mat_get (List.getElem?_eq_getElem (show a < L.length by omega)) (show k < L[a].length by omega)
  rw [hhas] at hgh
  rw [hloop] at hgl
  rw [← hgh] at hc6
  rw [← hgl] at hc9
  refine s_ld (j := 5) (cells_lk (lk_r [gk, gw] _ _ _ hT.out)) (by simp [Tb.cells]) (by simp) ?_
  simp -implicitDefEqProofs only [Tb.cells, go_sem,zA,zB,zC,zD,zE,reduceCtorEq,↓reduceIte,zF,zG,zH,zI]
  refine s_idx h1 (by omega) (by omega) ?_
  simp -implicitDefEqProofs only [go_sem,zA,zB,zC,zD,zE,reduceCtorEq,↓reduceIte,zF,zG,zH,zI]
  refine s_ld0 (hc5 _ (lk_r [gk, gw] _)) (by simp) (by simp) ?_
  simp -implicitDefEqProofs only [go_sem,zA,zB,zC,zD,zE,reduceCtorEq,↓reduceIte,zF,zG,zH,zI]
  refine s_idx h6 (by omega) (by omega) ?_
  simp -implicitDefEqProofs only [go_sem,zA,zB,zC,zD,zE,reduceCtorEq,↓reduceIte,zF,zG,zH,zI]
  refine s_ld0 (hc6 _ (lk_r [gk, gw] _)) (by simp) (by simp) ?_
  simp -implicitDefEqProofs only [go_sem,zA,zB,zC,zD,zE,reduceCtorEq,↓reduceIte,zF,zG,zH,zI]
  refine s_ld (j := 6) (cells_lk (lk_r [gk, gw] _ _ _ hT.out)) (by simp [Tb.cells]) (by simp) ?_
  simp -implicitDefEqProofs only [Tb.cells, go_sem,zA,zB,zC,zD,zE,reduceCtorEq,↓reduceIte,zF,zG,zH,zI]
  refine s_idx h7 (by omega) (by omega) ?_
  simp -implicitDefEqProofs only [go_sem,zA,zB,zC,zD,zE,reduceCtorEq,↓reduceIte,zF,zG,zH,zI]
  refine s_ld0 (hc8 _ (lk_r [gk, gw] _)) (by simp) (by simp) ?_
  simp -implicitDefEqProofs only [go_sem,zA,zB,zC,zD,zE,reduceCtorEq,↓reduceIte,zF,zG,zH,zI]
  refine s_idx h9 (by omega) (by omega) ?_
  simp -implicitDefEqProofs only [go_sem,zA,zB,zC,zD,zE,reduceCtorEq,↓reduceIte,zF,zG,zH,zI]
  refine s_ld0 (hc9 _ (lk_r [gk, gw] _)) (by simp) (by simp) ?_
  simp -implicitDefEqProofs only [go_sem,zA,zB,zC,zD,zE,reduceCtorEq,↓reduceIte,zF,zG,zH,zI]
  refine Up.here ?_
  subst hRR
  exact ⟨gk, gw, K, W, rfl, rfl, hGk, hK, hGw, hW⟩
 ·have hc : cenF g n a k = ((capN (cntT g (mostN g n) a k) : Nat) : Int) := if_neg fun h => hL (hiff.2 h)
  rw [hc]
  have hF : FinT g (mostN g n) a k := fun h hh => P.lp.stays V hk hL hh
  exact (@count_all t g n R cR H L E ge P (mostN g n) _ _ _ _ _ hR hGk hK hGw hW a k ha hk hL hF).mono fun v Γ h => h
/-- the error of a census -/
def cenE (g : Gr) (n : Int) : Int := if ckF g ≠ 0 then ckF g else if n < 0 ∨ 24 < n then 1 else 0
theorem rep_mat {α : Type} (a b : Nat) (z d : α) (hd : z = d) (x y : Nat) : ((List.replicate a (List.replicate b z)).getD x []).getD y d = d := by
 subst hd
 simp only [List.getD_eq_getElem?_getD, List.getElem?_replicate]
 split
 ·simp only [Option.getD_some, List.getElem?_replicate]
  split <;> simp
 ·simp
theorem shp_rep {α : Type} (a b : Nat) (z : α) : Shp a b (List.replicate a (List.replicate b z)) := ⟨by simp, fun r hr => by simp at hr; rw [hr.2]; simp⟩
theorem made3_at {α : Type} {rs : List Ru} {n : Nat} {z : α} {i : Nat} {rows : List (List α)} {r : Ru} (h1 : (made3 rs n z)[i]? = some rows) (h2 : rs[i]? = some r) : rows = List.replicate (r.r.length + 1) (List.replicate (n + 1) z) := by
 rw [made3, List.getElem?_map, h2] at h1
 simpa using h1.symm
theorem census_trees {Γr : Ctx} {g : Gr} {R : Option Addr} {cR : Nat} (hx : SlOk (lk Γr) R cR g.rs) {n : Int} (hn : -9223372036854775808 ≤ n ∧ n ≤ 9223372036854775807) :
  Ret Try.prog 79 [.agg #[.int .i64 g.ts, .int .i64 g.ns, .int .i64 g.st, .slice R g.rs.length cR], .int .i64 n] Γr [] (fun v Γ => (cenE g n ≠ 0 ∧ Γ = [] ∧ v = .tuple #[.slice none 0 0, .int .i64 (cenE g n)]) ∨
   (cenE g n = 0 ∧ ∃ go A c, Γ = [go] ∧ v = .tuple #[.slice A g.ns.toNat c, .int .i64 0] ∧ SlOk (lk [go]) A c (cenRows g n.toNat g.ns.toNat))) := by
 generalize hR : (fun (v : Value) (Γ : Ctx) => _ ∨ _) = R'
 refine ret_of_vc tr79 (Nat.le_of_ble_eq_true rfl) ?_
 simp -implicitDefEqProofs only [S79, S79_0, go_sem,zA,zB,zC,zD,zE,reduceCtorEq,↓reduceIte,zF,zG,zH,zI]
 intro bg
 refine CallVC.read (Γ := []) (gram_check (Γr := [] ++ Γr) hx) ?_
 rintro v Γ' ⟨rfl, rfl⟩
 simp -implicitDefEqProofs only [go_sem,zA,zB,zC,zD,zE,reduceCtorEq,↓reduceIte,zF,zG,zH,zI]
 refine ⟨fun hne => Up.here ?_, fun h0 => ?_⟩
 ·subst hR
  have : cenE g n = ckF g := if_pos hne
  exact .inl ⟨by rw [this]; exact hne, rfl, by rw [this]⟩
 refine ⟨fun hbad => Up.here ?_, fun hgood => ?_⟩
 ·subst hR
  have : cenE g n = 1 := by unfold cenE; rw [if_neg (by omega), if_pos hbad]
  exact .inl ⟨by omega, rfl, by rw [this]⟩
 have hce : cenE g n = 0 := by unfold cenE; rw [if_neg (by omega), if_neg (by omega)]
 have V := ckF_ok (show ckF g = 0 by omega)
 obtain ⟨m, rfl⟩ : ∃ m : Nat, n = m := ⟨n.toNat, by omega⟩
 rw [Int.toNat_natCast] at hR
 have hm : m ≤ 24 := by omega
 have hns := V.ns
 obtain ⟨N, hN⟩ : ∃ N : Nat, g.ns = N := ⟨g.ns.toNat, by omega⟩
 have hN' : g.ns.toNat = N := by omega
 rw [hN'] at hR
 refine CallVC.read (Γ := []) (new_table (Γr := [] ++ Γr) V hx hm) ?_
 rintro v Γ' ⟨t, gt, gh, gl, gk, ge, gw, rfl, rfl, hT, hGh, hGl, hGk, hCe, hCw⟩
 have hmf : ∀ a k, mat (List.replicate g.ns.toNat (List.replicate (m + 1) false)) a k = false := fun a k => rep_mat _ _ _ _ rfl a k
 have hma : ∀ (l : List Sy) a k, mat (List.replicate (l.length + 1) (List.replicate (m + 1) false)) a k = false := fun l a k => rep_mat _ _ _ _ rfl a k
 have hE0 : EndsI g m (List.replicate g.ns.toNat (List.replicate (m + 1) false)) (made3 g.rs m false) := ⟨by simp [made3], fun i rows r h1 h2 => by
  rw [made3_at h1 h2]
  exact ⟨shp_rep _ _ _, fun p k _ q => by rw [hma] at q; cases q⟩⟩
 simp -implicitDefEqProofs only [go_sem,zA,zB,zC,zD,zE,reduceCtorEq,↓reduceIte,zF,zG,zH,zI]
 refine CallVC.perm (Γm := [gh, ge]) (Γf := [gt, gl, gk, gw]) (tab_find (Γr := [gt, gl, gk, gw] ++ Γr) V (hT.mono (lk_sub fun g hg => by simp at hg ⊢; rcases hg with rfl | hg <;> simp [*])) hm hGh (shp_rep _ _ _) (fun a k q => by rw [hmf] at q; cases q) hCe hE0) ((List.Perm.swap gh gt _).trans (List.Perm.cons gh (List.perm_middle (l₁ := [gt, gl, gk])))) (List.Sublist.refl _) ?_
 clear hGh hCe hE0
 rintro v Γ' ⟨gh, ge, H, E, rfl, hGh, hSH, hHS, hCe, hEI, hED⟩
 simp -implicitDefEqProofs only [go_sem,zA,zB,zC,zD,zE,reduceCtorEq,↓reduceIte,zF,zG,zH,zI]
 refine CallVC.perm (Γm := [gl]) (Γf := [gh, ge, gt, gk, gw]) (tab_loops (Γr := [gh, ge, gt, gk, gw] ++ Γr) V (hT.mono (lk_sub fun g hg => by simp at hg ⊢; rcases hg with rfl | hg <;> simp [*])) (by have := hGh.slok (L := lk ([gh, ge, gt, gk, gw] ++ Γr)) (lk_sub (by simp)); rwa [hSH.1] at this) hSH hm hCe (lk_sub (by simp)) hEI hED hGl) (List.perm_middle (l₁ := [gh, ge, gt])) (List.Sublist.refl _) ?_
 clear hGl
 rintro v Γ' ⟨gl, L, rfl, hGl, hSL, hLI, hLD⟩
 have P := tabP_of V hm hSH hSL hHS hEI hED hLI hLD
 have hTR : TabR ([gl, gh, ge, gt] ++ Γr) t g m R cR H L E ge := ⟨hT.mono (lk_sub fun g hg => by simp at hg ⊢; rcases hg with rfl | hg <;> simp [*]), by have := hGh.slok (L := lk ([gl, gh, ge, gt] ++ Γr)) (lk_sub (by simp)); rwa [hSH.1] at this, by have := hGl.slok (L := lk ([gl, gh, ge, gt] ++ Γr)) (lk_sub (by simp)); rwa [hSL.1] at this, hCe, lk_sub (by simp)⟩
 have hKn : KnI g m (List.replicate g.ns.toNat (List.replicate (m + 1) (-1 : Int))) := ⟨shp_rep _ _ _, fun a k _ _ h => by rw [matI, rep_mat _ _ _ _ rfl] at h; omega⟩
 have hWy : WyI g m (made3 g.rs m (-1 : Int)) := ⟨by simp [made3], fun i rows r h1 h2 => by
  rw [made3_at h1 h2]
  exact ⟨shp_rep _ _ _, fun p k _ _ h => by rw [matI, rep_mat _ _ _ _ rfl] at h; omega⟩⟩
 generalize List.replicate g.ns.toNat (List.replicate (m + 1) (-1 : Int)) = K at hGk hKn
 generalize made3 g.rs m (-1 : Int) = W at hCw hWy
 simp -implicitDefEqProofs only [go_sem,zA,zB,zC,zD,zE,reduceCtorEq,↓reduceIte,zF,zG,zH,zI]
 rw [hN]
 refine ⟨by omega, by omega, fun bo => ?_⟩
 refine s_loop (fun f vs Γ => ∃ (a : Nat) (gk gw go gd : PH) (K : List (List Int)) (W : List (List (List Int))) (hs : List Hd), vs = [.v true (.int .i64 (a : Int))] ∧ Γ = [gk, gw, go, gd, gl, gh, ge, gt] ∧ a + f = N ∧ Grid gk t.bk 29 3 K ∧ KnI g m K ∧ Cube gw 29 3 t.bw W ∧ WyI g m W ∧ Arr go bo 29 (hs ++ List.replicate (N - a) ⟨none, 0, 0⟩) ∧ hs.length = a ∧ HdsOk (lk [gd]) hs (cenRows g m a)) N
  (Up.emp (Up.sel [[6], [7], [1], [0], [2], [3], [4], [5]] (by decide) fun _ hm => ⟨0, _, _, _, _, K, W, [], rfl, rfl, by omega, hGk, hKn, hCw, hWy, by rw [List.nil_append, Nat.sub_zero]; exact Arr.made (α := Hd) ⟨none, 0, 0⟩ bo 29 N, rfl, ⟨rfl, fun i h xs h1 => by simp at h1⟩⟩)) ?_
 clear hGk hKn hCw hWy
 rintro f vs Γ ⟨a, gk, gw, go, gd, K, W, hs, rfl, rfl, haf, hGk, hKn, hCw, hWy, hAo, hhl, hHd⟩
 simp -implicitDefEqProofs only [S79_2, go_sem,zA,zB,zC,zD,zE,reduceCtorEq,↓reduceIte,zF,zG,zH,zI]
 refine ⟨fun hlt => ?_, fun hge => ?_⟩
 ·have ha : a < N := by omega
  obtain ⟨d, hd⟩ : ∃ d, N - a = d + 1 := ⟨N - a - 1, by omega⟩
  have hd' : N - (a + 1) = d := by omega
  rw [hd, List.replicate_succ] at hAo
  simp (disch := omega) only [wrap_id]
  refine s_loop (fun f2 vs Γ => ∃ (k : Nat) (gk gw gr go : PH) (K : List (List Int)) (W : List (List (List Int))) (Ar : Option Addr) (cr : Nat), vs = [.v true (.int .i64 (k : Int))] ∧ Γ = [gk, gw, gr, go, gd, gl, gh, ge, gt] ∧ k + f2 = m + 1 ∧ Grid gk t.bk 29 3 K ∧ KnI g m K ∧ Cube gw 29 3 t.bw W ∧ WyI g m W ∧ Arr go bo 29 (hs ++ (⟨Ar, k, cr⟩ : Hd) :: List.replicate d ⟨none, 0, 0⟩) ∧ Bld gr (lk []) 3 (.slice Ar k cr) (cenRow g m a k)) (m + 1)
   (Up.emp (Up.sel [[1], [2], [0], [3], [4], [5], [6], [7], [8]] (by decide) fun _ _ => ⟨0, _, _, _, _, K, W, none, 0, rfl, rfl, by omega, hGk, hKn, hCw, hWy, hAo, Bld.nil _ _ _⟩)) ?_
  clear hGk hKn hCw hWy hAo
  rintro f2 vs Γ ⟨k, gk, gw, gr, go, K, W, Ar, cr, rfl, rfl, hkf, hGk, hKn, hCw, hWy, hAo, hBr⟩
  have hrl : (cenRow g m a k).length = k := by simp [cenRow]
  have hol : (hs ++ (⟨Ar, k, cr⟩ : Hd) :: List.replicate d ⟨none, 0, 0⟩).length = N := by simp; omega
  have hga : (hs ++ (⟨Ar, k, cr⟩ : Hd) :: List.replicate d ⟨none, 0, 0⟩)[a]'(by omega) = ⟨Ar, k, cr⟩ := by subst hhl; simp
  have hcell : ∀ Γ : Ctx, go ∈ Γ → Cells Γ bo a [.slice Ar k cr] := fun Γ hg => by
   have := hAo.cell (i := a) (by omega) hg
   rw [hga] at this
   exact this
  simp -implicitDefEqProofs only [S79_1, go_sem,zA,zB,zC,zD,zE,reduceCtorEq,↓reduceIte,zF,zG,zH,zI]
  refine ⟨fun hlt => ?_, fun hge => ?_⟩
  ·have hk : k ≤ m := by omega
   have hcall := count_any P (Γr := [gr, go, gd, gl, gh, ge, gt] ++ Γr) (hTR.mono (lk_sub fun g hg => by simp at hg ⊢; rcases hg with rfl | rfl | rfl | rfl | hg <;> simp [*])) hGk hKn hCw hWy (a := a) (by omega) hk
   refine ⟨[gk, gw, gr, go, gd, gl, gh, ge, gt], [], fun ψ Γ' => ∃ (gk' gw' gr' go' : PH) (K : List (List Int)) (W : List (List (List Int))) (Ar : Option Addr) (cr : Nat), ψ = [(1, .v true (.int .i64 (m : Int))), (7, .v true (.pointer (some ⟨t.b, 0, none⟩))), (8, .v true (.slice (some ⟨bo, 0, none⟩) N N)), (9, .v true (.int .i64 (a : Int))), (33, .v true (.int .i64 (N : Int))), (34, .v true (.int .i64 (a : Int))), (38, .v true (.int .i64 ((m : Int) + 1))), (39, .v true (.int .i64 (k : Int)))] ∧
    Γ' = [gk', gw', gr', go', gd, gl, gh, ge, gt] ∧ Grid gk' t.bk 29 3 K ∧ KnI g m K ∧ Cube gw' 29 3 t.bw W ∧ WyI g m W ∧ Arr go' bo 29 (hs ++ (⟨Ar, k + 1, cr⟩ : Hd) :: List.replicate d ⟨none, 0, 0⟩) ∧ Bld gr' (lk []) 3 (.slice Ar (k + 1) cr) (cenRow g m a (k + 1)), Ent.refl _, ?_, ?_⟩
   ·simp -implicitDefEqProofs only [go_sem,zA,zB,zC,zD,zE,reduceCtorEq,↓reduceIte,zF,zG,zH,zI]
    refine s_idx rfl (by omega) (by omega) ?_
    simp -implicitDefEqProofs only [go_sem,zA,zB,zC,zD,zE,reduceCtorEq,↓reduceIte,zF,zG,zH,zI]
    repeat' first
     | with_reducible exact True.intro
     | with_reducible refine And.intro ?_ ?_
     | with_reducible intro bk
     | (refine s_ld0 (by simpa using hcell _ (by simp)) (by simp) (by simp) ?_)
     | (refine CallVC.perm (Γm := [gk, gw]) (Γf := [gr, go, gd, gl, gh, ge, gt]) hcall (List.Perm.refl _) (List.Sublist.refl _) ?_; rintro v Γ' ⟨gk', gw', K', W', rfl, rfl, hGk', hKn', hCw', hWy'⟩)
     | (refine s_app1S (α := Int) (ix := 3) (cenF g m a k) rfl hBr cells_one rfl (by omega) (by unfold maxLen; omega) ?_; intro va' gr' hBr' _; obtain ⟨Ar', cr', rfl⟩ := hBr'.val)
     | (refine s_idx rfl (by omega) (by omega) ?_)
     | (refine s_storeA (ix := 4) (α := Hd) (⟨Ar', _, cr'⟩ : Hd) rfl hAo (i := a) (by omega) ?_; intro go' hAo' _)
     | simp -implicitDefEqProofs only [go_sem,zA,zB,zC,zD,zE,reduceCtorEq,↓reduceIte,zF,zG,zH,zI]
    all_goals have e1 : (cenRow g m a k ++ [cenF g m a k]).length = k + 1 := by simp [hrl]
    all_goals rw [e1] at hBr' hAo'
    all_goals rw [← cenRow_succ] at hBr'
    all_goals exact Up.skip (Up.here ⟨gk', gw', gr', go', K', W', Ar', cr', rfl, hGk', hKn', hCw', hWy', by subst hhl; simpa using hAo', hBr'⟩)
   ·rintro ψ Γ' ⟨gk, gw, gr, go, K, W, Ar, cr, rfl, rfl, hGk, hKn, hCw, hWy, hAo, hBr⟩
    simp -implicitDefEqProofs only [go_sem,zA,zB,zC,zD,zE,reduceCtorEq,↓reduceIte,zF,zG,zH,zI]
    simp (disch := omega) only [wrap_id]
    exact ⟨f2 - 1, by omega, Up.here ⟨k + 1, gk, gw, gr, go, K, W, Ar, cr, rfl, rfl, by omega, hGk, hKn, hCw, hWy, hAo, hBr⟩⟩
  ·have hke : k = m + 1 := by omega
   subst hke
   obtain ⟨A', c', ea, hSr⟩ := hBr.slok (L' := lk [gr]) (Mem.le.refl _) (fun b o ⟨x, hx, _⟩ => by cases hx) (by omega)
   rw [hrl] at ea
   simp only [Value.slice.injEq, true_and] at ea
   obtain ⟨rfl, rfl⟩ := ea
   simp (disch := omega) only [wrap_id]
   refine ⟨f - 1, by omega, Up.sel [[0], [1], [3], [4, 2], [5], [6], [7], [8]] (by decide) fun _ hm2 => ⟨a + 1, gk, gw, go, _, K, W, hs ++ [⟨Ar, m + 1, cr⟩], rfl, rfl, by omega, hGk, hKn, hCw, hWy, by rw [hd', List.append_assoc]; exact hAo, by simp [hhl], ?_⟩⟩
   rw [cenRows_succ]
   have hmg := hm2 [4, 2] (by simp)
   exact hHd.snoc (Mem.le.trans (lk_sub (by simp [sel])) hmg) hrl.symm (hSr.mono (Mem.le.trans (lk_sub (by simp [sel])) hmg))
 ·have hae : a = N := by omega
  subst hae
  rw [Nat.sub_self, List.replicate_zero, List.append_nil] at hAo
  refine Up.sel [[2, 3]] (by decide) fun _ hm2 => ?_
  have hmg := hm2 [2, 3] (by simp)
  subst hR
  have hSo := Arr.slok (g := go) (b := bo) (T := 29) hAo (Mem.le.refl _) (Nat.le_refl _) (by unfold maxLen; omega) (by omega)
  have := HdsOk.slok hSo hHd (Mem.le.trans (lk_sub (by simp [sel])) hmg) (Mem.le.trans (lk_sub (by simp [sel])) hmg)
  rw [hhl] at this
  exact .inr ⟨hce, _, _, _, rfl, rfl, this⟩
/- What lies in trees of the start symbol of which there are not too many: the plain law; no condition. -/
def InS (g : Gr) (c : Int) (n : Nat) (b : Int) (j : Nat) : Prop := ∃ d, ∀ h, cntT g h b j ≤ cntT g (h + d) c n
def InR (g : Gr) (c : Int) (n : Nat) (l : List Sy) (k : Nat) : Prop := ∃ d, ∀ h, rowT (cntT g h) l k ≤ cntT g (h + d) c n
theorem InS.self (g : Gr) (c : Int) (n : Nat) : InS g c n c n := ⟨0, fun _ => Nat.le_refl _⟩
theorem row_sumR {T : Int → Nat → Nat} {a : Int} {k : Nat} {r : Ru} (hl : r.l = a) : ∀ {rs : List Ru}, r ∈ rs → rowT T r.r k ≤ sumR T a k rs
 | [], h => by simp at h
 | x :: rs, h => by
  rw [sumR]
  rcases List.mem_cons.1 h with e | e
  ·subst e
   rw [if_pos hl]
   omega
  ·have := row_sumR (T := T) (k := k) hl e
   omega
theorem sumN_term (f : Nat → Nat) {j : Nat} : ∀ {n : Nat}, j < n → f j ≤ sumN f n
 | 0, h => by omega
 | n + 1, h => by
  rw [sumN]
  rcases Nat.lt_or_ge j n with q | q
  ·have := sumN_term f q
   omega
  ·have : j = n := by omega
   subst this
   omega
theorem row_first (T : Int → Nat → Nat) (s : Sy) (l : List Sy) {j k : Nat} (hj : j ≤ k) : symT T s j * rowT T l (k - j) ≤ rowT T (s :: l) k :=
 sumN_term (fun j => symT T s j * rowT T l (k - j)) (Nat.lt_succ_of_le hj)
theorem InS.rule {g : Gr} {c : Int} {n : Nat} {a : Int} {k : Nat} (h : InS g c n a k) {r : Ru} (hr : r ∈ g.rs) (hl : r.l = a) : InR g c n r.r k := by
 obtain ⟨d, h⟩ := h
 refine ⟨d + 1, fun x => ?_⟩
 have h1 := h (x + 1)
 have h2 : rowT (cntT g x) r.r k ≤ cntT g (x + 1) a k := row_sumR hl hr
 rw [show x + (d + 1) = x + 1 + d by omega]
 omega
theorem InR.rest {g : Gr} {c : Int} {n M : Nat} {s : Sy} {l : List Sy} {j k : Nat} (h : InR g c n (s :: l) k) (hj : j ≤ k) (hp : 0 < symT (cntT g M) s j) : InR g c n l (k - j) := by
 obtain ⟨d, h⟩ := h
 refine ⟨M + d, fun x => ?_⟩
 have h1 := h (x + M)
 have h2 := row_first (cntT g (x + M)) s l hj
 have h3 := rowT_le (cntT_le g (show x ≤ x + M by omega)) l (k - j)
 have h4 := symT_le (cntT_le g (show M ≤ x + M by omega)) s j
 have h5 : rowT (cntT g (x + M)) l (k - j) ≤ symT (cntT g (x + M)) s j * rowT (cntT g (x + M)) l (k - j) := Nat.le_mul_of_pos_left _ (by omega)
 rw [show x + (M + d) = x + M + d by omega]
 omega
theorem InR.sym {g : Gr} {c : Int} {n M : Nat} {s : Sy} {l : List Sy} {j k : Nat} (h : InR g c n (s :: l) k) (hj : j ≤ k) (hs : s.t = false) (hp : 0 < rowT (cntT g M) l (k - j)) : InS g c n s.n j := by
 obtain ⟨d, h⟩ := h
 refine ⟨M + d, fun x => ?_⟩
 have h1 := h (x + M)
 have h2 := row_first (cntT g (x + M)) s l hj
 have h3 := rowT_le (cntT_le g (show M ≤ x + M by omega)) l (k - j)
 have h4 := symT_le (cntT_le g (show x ≤ x + M by omega)) s j
 have h5 : symT (cntT g (x + M)) s j ≤ symT (cntT g (x + M)) s j * rowT (cntT g (x + M)) l (k - j) := Nat.le_mul_of_pos_right _ (by omega)
 have h6 : symT (cntT g x) s j = cntT g x s.n j := by unfold symT; rw [if_neg (by rw [hs]; simp)]
 rw [show x + (M + d) = x + M + d by omega]
 omega
/-- not too many trees of the start symbol -/
structure Fine (g : Gr) (n : Nat) : Prop where
 V : VG g
 top : ∀ h, cntT g h g.st n ≤ cntT g (mostN g n) g.st n
 few : cntT g (mostN g n) g.st n < 1000000000
theorem fine_of {g : Gr} (V : VG g) {n a : Nat} (ha : g.st = (a : Int)) (h1 : cenF g n a n ≠ -1) (h2 : cenF g n a n ≠ 1000000000) : Fine g n ∧ cenF g n a n = (cntT g (mostN g n) g.st n : Nat) := by
 have S := loop_ex g n
 have hi := S.iff V (a := g.st) (k := n) (Nat.le_refl _)
 unfold cenF at h1 h2 ⊢
 rw [← ha] at h1 h2 ⊢
 by_cases e : cntT g (mostN g n) g.st n < cntT g (2 * mostN g n + 2) g.st n
 ·rw [if_pos e] at h1
  exact absurd rfl h1
 ·rw [if_neg e] at h2 ⊢
  have hL : ¬ LpC g n g.st n := fun q => e (hi.1 q)
  have h3 : cntT g (mostN g n) g.st n < 1000000000 := by
   unfold capN at h2
   omega
  refine ⟨⟨V, fun h => ?_, h3⟩, by unfold capN; omega⟩
  rcases Nat.lt_or_ge h (mostN g n) with q | q
  ·exact cntT_le g (Nat.le_of_lt q) _ _
  ·rw [S.stays V (Nat.le_refl _) hL q]
   exact Nat.le_refl _
theorem InS.free {g : Gr} {n : Nat} (F : Fine g n) {b : Int} {j : Nat} (hj : j ≤ n) (h : InS g g.st n b j) : ¬ LpC g n b j := by
 intro hL
 have S := loop_ex g n
 obtain ⟨d, h⟩ := h
 have hg : ∀ t, t ≤ cntT g (mostN g n * t) b j := by
  intro t
  induction t with
  | zero => exact Nat.zero_le _
  | succ t ih =>
   have := S.grow F.V (mostN g n * t) b j hj hL
   rw [show mostN g n * (t + 1) = mostN g n + mostN g n * t by rw [Nat.mul_add]; omega]
   omega
 have h1 := hg (cntT g (mostN g n) g.st n + 1)
 have h2 := h (mostN g n * (cntT g (mostN g n) g.st n + 1))
 have h3 := F.top (mostN g n * (cntT g (mostN g n) g.st n + 1) + d)
 omega
theorem InS.fin {g : Gr} {n : Nat} (F : Fine g n) {b : Int} {j : Nat} (hj : j ≤ n) (h : InS g g.st n b j) : FinT g (mostN g n) b j := fun x hx => (loop_ex g n).stays F.V hj (h.free F hj) hx
theorem InS.few {g : Gr} {n : Nat} (F : Fine g n) {b : Int} {j : Nat} (h : InS g g.st n b j) (x : Nat) : cntT g x b j < 1000000000 := by
 obtain ⟨d, h⟩ := h
 have h1 := h x
 have h2 := F.top (x + d)
 have h3 := F.few
 omega
theorem InR.few {g : Gr} {n : Nat} (F : Fine g n) {l : List Sy} {k : Nat} (h : InR g g.st n l k) (x : Nat) : rowT (cntT g x) l k < 1000000000 := by
 obtain ⟨d, h⟩ := h
 have h1 := h x
 have h2 := F.top (x + d)
 have h3 := F.few
 omega
theorem InS.cen {g : Gr} {n : Nat} (F : Fine g n) {b j : Nat} (hj : j ≤ n) (h : InS g g.st n (b : Int) j) : cenF g n b j = (cntT g (mostN g n) (b : Int) j : Nat) := by
 have h1 := h.fin F hj (2 * mostN g n + 2) (by omega)
 have h2 := h.few F (mostN g n)
 unfold cenF
 rw [if_neg (by omega)]
 unfold capN
 omega
theorem cenF_zero {g : Gr} (V : VG g) {n b j : Nat} (hj : j ≤ n) : cenF g n b j = 0 ↔ cntT g (mostN g n) (b : Int) j = 0 := by
 have h0 := cnt_pos V (n := n) (2 * mostN g n + 2) (a := (b : Int)) hj
 unfold cenF
 split
 ·refine ⟨fun h => by omega, fun h => by have := h0 (by omega); omega⟩
 ·unfold capN
  omega
/- The text of (*parlance/rank.book).sym as a statement; no condition. -/
def S212_0 : Stmt :=
 .seq
 (.region
 [oq 4 (.box true 39 (.tmp 1)),
 oq 6 (.mv (.const (.int .i64 0)))]
 [0,2,4])
 (.seq
 (.seq
 (.region
 [oq 7 (.fld 0 (.tmp 4)),oq 8 (.load false 1 (.tmp 7)),
 oq 9 (.un .not (.tmp 8))]
 [0,2,4,9])
 (.cond (.tmp 9)
 (.seq
 (.quiet
 [oq 10 (.mv (.tmp 0)),oq 11 (.nilCheck (.tmp 10)),
 oq 12 (.fld 4 (.tmp 11)),
 oq 13 (.load false 1 (.tmp 12)),
 oq 14 (.fld 1 (.tmp 4)),
 oq 15 (.load false 1 (.tmp 14)),
 oq 16 (.idx 1 (.tmp 13) (.tmp 15)),
 oq 17 (.load false 1 (.tmp 16)),
 oq 18 (.mv (.tmp 2)),
 oq 19 (.idx 1 (.tmp 17) (.tmp 18)),
 oq 20 (.load false 1 (.tmp 19)),
 oq 6 (.mv (.tmp 20))]
 [6])
 .ret)
 .skip))
 (.seq
 (.seq
 (.region
 [oq 21 (.mv (.tmp 2)),
 oq 22 (.ibin .eql (.tmp 21) (.const (.int .i64 1)))]
 [22])
 (.cond (.tmp 22)
 (.seq (.region [oq 6 (.mv (.const (.int .i64 1)))] [6])
 .ret)
 .skip))
 (.seq (.region [oq 6 (.mv (.const (.int .i64 0)))] [6])
 .ret)))
def S212 : FnS := ⟨23,[(6,none)],S212_0⟩
theorem tr212 : trFn Try.prog 212 [4] [[0,2,4],[0,2,4,9],[6],[22],[6],[6]] = some S212 := by kernel_rfl
/- The text of (*parlance/rank.book).part as a statement; no condition. -/
def S211_0 : Stmt :=
 .seq (.region [oq 10 (.mv (.const (.int .i64 0)))] [0,1,2,3,4])
 (.seq
 (.region
 [oq 12 (.mv (.tmp 0)),oq 13 (.mv (.tmp 0)),
 oq 14 (.nilCheck (.tmp 13)),oq 15 (.fld 0 (.tmp 14)),
 oq 16 (.fld 3 (.tmp 15)),
 oq 17 (.load false 1 (.tmp 16)),oq 18 (.mv (.tmp 1)),
 oq 19 (.idx 2 (.tmp 17) (.tmp 18)),
 oq 20 (.fld 1 (.tmp 19)),
 oq 21 (.load false 1 (.tmp 20)),oq 22 (.mv (.tmp 2)),
 oq 23 (.idx 2 (.tmp 21) (.tmp 22)),
 oq 24 (.load true 2 (.tmp 23)),oq 25 (.mv (.tmp 3)),
 oq 26 (.call (.func 212) [.tmp 12,.tmp 24,.tmp 25]),
 oq 11 (.mv (.tmp 26))]
 [0,1,2,3,4,11])
 (.seq
 (.seq
 (.region
 [oq 27 (.mv (.tmp 11)),
 oq 28 (.ibin .eql (.tmp 27) (.const (.int .i64 0)))]
 [0,1,2,3,4,11,28])
 (.cond (.tmp 28)
 (.seq (.region [oq 10 (.mv (.const (.int .i64 0)))] [10])
 .ret)
 .skip))
 (.seq
 (.region
 [oq 29 (.mv (.tmp 11)),oq 30 (.mv (.tmp 0)),
 oq 31 (.mv (.tmp 1)),oq 32 (.mv (.tmp 2)),
 oq 33 (.ibin .add (.tmp 32) (.const (.int .i64 1))),
 oq 34 (.mv (.tmp 4)),oq 35 (.mv (.tmp 3)),
 oq 36 (.ibin .sub (.tmp 34) (.tmp 35)),
 .mk (some 37) none
 (.call (.func 197) [.tmp 30,.tmp 31,.tmp 33,.tmp 36]),
 oq 38 (.ibin .mul (.tmp 29) (.tmp 37)),
 oq 10 (.mv (.tmp 38))]
 [10])
 .ret)))
def S211 : FnS := ⟨39,[(10,none)],S211_0⟩
theorem tr211 : trFn Try.prog 211 [] [[0,1,2,3,4],[0,1,2,3,4,11],[0,1,2,3,4,11,28],[10],[10]] = some S211 := by kernel_rfl
/- The text of (*parlance/rank.book).ways as a statement; no condition. -/
def S197_1 : Stmt :=
 .seq
 (.region [oq 48 (.ibin .lss (.tmp 47) (.tmp 46))]
 [0,1,2,3,10,13,46,47,48])
 (.seq (.cond (.tmp 48) .skip (.exit 0))
 (.seq
 (.block 1
 (.seq
 (.region
 [oq 49 (.mv (.tmp 47)),oq 14 (.mv (.tmp 49))]
 [0,1,2,3,10,13,14,46,47])
 (.region
 [oq 50 (.mv (.tmp 13)),oq 51 (.mv (.tmp 0)),
 oq 52 (.mv (.tmp 1)),oq 53 (.mv (.tmp 2)),
 oq 54 (.mv (.tmp 14)),oq 55 (.mv (.tmp 3)),
 .mk (some 56) none
 (.call (.func 211)
 [.tmp 51,.tmp 52,.tmp 53,.tmp 54,.tmp 55]),
 oq 57 (.ibin .add (.tmp 50) (.tmp 56)),
 oq 13 (.mv (.tmp 57))]
 [0,1,2,3,10,13,46,47])))
 (.region
 [oq 58 (.ibin .add (.tmp 47) (.const (.int .i64 1))),
 oq 47 (.mv (.tmp 58))]
 [0,1,2,3,10,13,46,47])))
def S197_0 : Stmt :=
 .seq (.region [oq 8 (.mv (.const (.int .i64 0)))] [0,1,2,3])
 (.seq
 (.region
 [oq 15 (.mv (.tmp 0)),oq 16 (.nilCheck (.tmp 15)),
 oq 17 (.fld 0 (.tmp 16)),oq 18 (.fld 3 (.tmp 17)),
 oq 19 (.load false 1 (.tmp 18)),oq 20 (.mv (.tmp 1)),
 oq 21 (.idx 2 (.tmp 19) (.tmp 20)),
 oq 22 (.fld 1 (.tmp 21)),
 oq 23 (.load false 1 (.tmp 22)),oq 9 (.mv (.tmp 23))]
 [0,1,2,3,9])
 (.seq
 (.seq
 (.region
 [oq 24 (.mv (.tmp 2)),oq 25 (.mv (.tmp 9)),
 oq 26 (.len false (.tmp 25)),
 oq 27 (.ibin .eql (.tmp 24) (.tmp 26))]
 [0,1,2,3,27])
 (.cond (.tmp 27)
 (.seq
 (.seq
 (.region
 [oq 28 (.mv (.tmp 3)),
 .mk (some 29) none
 (.ibin .eql (.tmp 28) (.const (.int .i64 0)))]
 [29])
 (.cond (.tmp 29)
 (.seq (.region [oq 8 (.mv (.const (.int .i64 1)))] [8])
 .ret)
 .skip))
 (.seq (.region [oq 8 (.mv (.const (.int .i64 0)))] [8])
 .ret))
 .skip))
 (.seq
 (.region
 [oq 30 (.mv (.tmp 1)),oq 31 (.mv (.tmp 2)),
 oq 32 (.mv (.tmp 3)),
 .mk (some 33) none
 (.build 294 [.int .i64 0,.int .i64 0,.int .i64 0]
 [(0,1,.tmp 30),(1,1,.tmp 31),(2,1,.tmp 32)]),
 .mk (some 10) none
 (.alloc true 294
 (.agg (Array.mk [.int .i64 0,.int .i64 0,.int .i64 0]))),
 .mk none none (.store 3 (.tmp 10) (.tmp 33))]
 [0,1,2,3,10])
 (.seq
 (.seq
 (.quiet
 [oq 35 (.mv (.tmp 0)),
 oq 36 (.nilCheck (.tmp 35)),
 oq 37 (.fld 5 (.tmp 36)),
 oq 38 (.load false 1 (.tmp 37)),
 oq 39 (.load true 3 (.tmp 10)),
 oq 40 (.q (Qk.look 266 true) [.tmp 38,.tmp 39]),
 oq 34 (.mv (.tmp 40)),
 oq 41 (.extract 0 (.tmp 34)),
 oq 42 (.extract 1 (.tmp 34)),
 oq 11 (.mv (.tmp 41)),oq 12 (.mv (.tmp 42))]
 [0,1,2,3,10,11,12])
 (.seq (.region [oq 43 (.mv (.tmp 12))] [0,1,2,3,10,11,43])
 (.cond (.tmp 43)
 (.seq
 (.region
 [oq 44 (.mv (.tmp 11)),
 oq 8 (.mv (.tmp 44))]
 [8])
 .ret)
 .skip)))
 (.seq
 (.region [oq 13 (.mv (.const (.int .i64 0)))]
 [0,1,2,3,10,13])
 (.seq
 (.seq
 (.region
 [oq 45 (.mv (.tmp 3)),
 .mk (some 46) none
 (.ibin .add (.tmp 45) (.const (.int .i64 1))),
 oq 47 (.mv (.const (.int .i64 0)))]
 [0,1,2,3,10,13,46,47])
 (.block 0 (.loop S197_1 [13,47] [0,1,2,3,10,46])))
 (.seq
 (.drawn
 [(false,oq 59 (.mv (.tmp 0))),
 (false,oq 60 (.nilCheck (.tmp 59))),
 (false,oq 61 (.fld 5 (.tmp 60))),
 (false,oq 62 (.load false 1 (.tmp 61))),
 (false,oq 63 (.load true 3 (.tmp 10))),
 (false,oq 64 (.mv (.tmp 13))),
 (false,.mk none none (.a (Qk.upd 266) [.tmp 62,.tmp 63,.tmp 64]))]
 [13])
 (.seq
 (.region
 [oq 65 (.mv (.tmp 13)),
 oq 8 (.mv (.tmp 65))]
 [8])
 .ret))))))))
def S197 : FnS := ⟨66,[(8,none)],S197_0⟩
theorem tr197 : trFn Try.prog 197 [10] [[0,1,2,3],[0,1,2,3,9],[0,1,2,3,27],[29],[8],[8],[0,1,2,3,10],[0,1,2,3,10,11,12],[0,1,2,3,10,11,43],[8],[0,1,2,3,10,13],[0,1,2,3,10,13,46,47],[13,47],[0,1,2,3,10,46],[0,1,2,3,10,13,46,47,48],[0,1,2,3,10,13,14,46,47],[0,1,2,3,10,13,46,47],[0,1,2,3,10,13,46,47],[13],[0,1,2,3,4,5,6],[],[],[0],[0,1],[0,1,2],[],[],[0,1,2,3,4,5],[8]] = some S197 := by kernel_rfl
/- rank: sym, part, ways walked; no condition. -/
theorem kt_ipk : KT Try.prog 294 intsV (okInts 3) := kt_ints (P := Try.prog) (k := 294) (e := 3) (n := 3) (by kernel_rfl) (of_decide_eq_true (by kernel_rfl)) (of_decide_eq_true (by kernel_rfl)) (by kernel_rfl) (by kernel_rfl) (by kernel_rfl) (by kernel_rfl) (by kernel_rfl) (by kernel_rfl)
def bkC (g : Gr) (R : Option Addr) (cR : Nat) (An : Option Addr) (cn bm : Nat) : List Value :=
 [.int .i64 g.ts, .int .i64 g.ns, .int .i64 g.st, .slice R g.rs.length cR, .slice An g.ns.toNat cn, .map (some bm)]
/-- what of a book does not change -/
structure BookK (L : Mem) (b : Nat) (g : Gr) (n : Nat) (R : Option Addr) (cR : Nat) (An : Option Addr) (cn bm : Nat) : Prop where
 out : L b (.cells (bkC g R cR An cn bm).toArray 268 (0, 0))
 rs : SlOk L R cR g.rs
 n : SlOk L An cn (cenRows g n g.ns.toNat)
theorem BookK.mono {L L' : Mem} {b : Nat} {g : Gr} {n : Nat} {R : Option Addr} {cR : Nat} {An : Option Addr} {cn bm : Nat} (h : BookK L b g n R cR An cn bm) (hl : Mem.le L L') : BookK L' b g n R cR An cn bm := ⟨hl _ _ h.out, h.rs.mono hl, h.n.mono hl⟩
def symZ (g : Gr) (n : Nat) (s : Sy) (j : Nat) : Int := if s.t then (if j = 1 then 1 else 0) else cenF g n s.n.toNat j
theorem book_sym {Γr : Ctx} {b : Nat} {g : Gr} {n : Nat} {R : Option Addr} {cR : Nat} {An : Option Addr} {cn bm : Nat} (hB : BookK (lk Γr) b g n R cR An cn bm) {s : Sy} (hs : s.t = false → 0 ≤ s.n ∧ s.n < g.ns) {j : Nat} (hj : j ≤ n) (hn : n ≤ 24) :
  Ret Try.prog 212 [.pointer (some ⟨b, 0, none⟩), .agg #[.bool s.t, .int .i64 s.n], .int .i64 (j : Int)] Γr [] (fun v Γ => Γ = [] ∧ v = .int .i64 (symZ g n s j)) := by
 generalize hR : (fun (v : Value) (Γ : Ctx) => Γ = [] ∧ v = _) = R'
 refine ret_of_vc tr212 (Nat.le_of_ble_eq_true rfl) ?_
 obtain ⟨st, sn⟩ := s
 cases st with
 | true =>
  simp -implicitDefEqProofs only [S212, S212_0, go_sem,zA,zB,zC,zD,zE,reduceCtorEq,↓reduceIte,zF,zG,zH,zI]
  refine ⟨fun h => Up.here ?_, fun h => Up.here ?_⟩
  ·subst hR
   have : j = 1 := by omega
   exact ⟨rfl, by simp [symZ, this]⟩
  ·subst hR
   have : ¬ j = 1 := by omega
   exact ⟨rfl, by simp [symZ, this]⟩
 | false =>
  have hs : 0 ≤ sn ∧ sn < g.ns := hs rfl
  obtain ⟨a, rfl⟩ : ∃ a : Nat, sn = a := ⟨sn.toNat, by omega⟩
  have hcl : (cenRows g n g.ns.toNat).length = g.ns.toNat := by simp [cenRows]
  obtain ⟨b1, o1, h1, A1, c1, hr1, hc1⟩ := hB.n.list (i := a) (by omega)
  have e1 : (cenRows g n g.ns.toNat)[a]'(by omega) = cenRow g n a (n + 1) := by simp [cenRows]
  rw [e1] at hr1 hc1
  have hrl : (cenRow g n a (n + 1)).length = n + 1 := by simp [cenRow]
  rw [hrl] at hc1
  obtain ⟨b2, o2, h2, hc2⟩ := hr1.int (i := j) (by omega)
  have e2 : (cenRow g n a (n + 1))[j]'(by omega) = cenF g n a j := by simp [cenRow]
  rw [e2] at hc2
  simp -implicitDefEqProofs only [S212, S212_0, go_sem,zA,zB,zC,zD,zE,reduceCtorEq,↓reduceIte,zF,zG,zH,zI]
  intro bs
  refine s_ld (j := 4) (cells_lk hB.out) (by simp [bkC]) (by simp) ?_
  simp -implicitDefEqProofs only [bkC, go_sem,zA,zB,zC,zD,zE,reduceCtorEq,↓reduceIte,zF,zG,zH,zI]
  refine s_idx h1 (by omega) (by omega) ?_
  simp -implicitDefEqProofs only [go_sem,zA,zB,zC,zD,zE,reduceCtorEq,↓reduceIte,zF,zG,zH,zI]
  refine s_ld0 (hc1 _ (lk_r [] _)) (by simp) (by simp) ?_
  simp -implicitDefEqProofs only [go_sem,zA,zB,zC,zD,zE,reduceCtorEq,↓reduceIte,zF,zG,zH,zI]
  refine s_idx h2 (by omega) (by omega) ?_
  simp -implicitDefEqProofs only [go_sem,zA,zB,zC,zD,zE,reduceCtorEq,↓reduceIte,zF,zG,zH,zI]
  refine s_ld0 (hc2 _ (lk_r [] _)) (by simp) (by simp) ?_
  simp -implicitDefEqProofs only [go_sem,zA,zB,zC,zD,zE,reduceCtorEq,↓reduceIte,zF,zG,zH,zI]
  refine Up.here ?_
  subst hR
  exact ⟨rfl, by simp [symZ]⟩
theorem symZ_zero {g : Gr} (V : VG g) {n : Nat} {s : Sy} (hs : s.t = false → 0 ≤ s.n) {j : Nat} (hj : j ≤ n) : symZ g n s j = 0 ↔ symT (cntT g (mostN g n)) s j = 0 := by
 obtain ⟨st, sn⟩ := s
 cases st with
 | true => simp only [symZ, symT, if_true]; split <;> simp
 | false =>
  obtain ⟨a, rfl⟩ : ∃ a : Nat, sn = a := ⟨sn.toNat, by have := hs rfl; simp at this; omega⟩
  have := cenF_zero V (n := n) (b := a) hj
  simpa [symZ, symT] using this
theorem symZ_in {g : Gr} {n : Nat} (F : Fine g n) {s : Sy} (hs : s.t = false → 0 ≤ s.n) {l : List Sy} {j k : Nat} (hk : k ≤ n) (hj : j ≤ k) (h : InR g g.st n (s :: l) k) (hp : 0 < rowT (cntT g (mostN g n)) l (k - j)) : symZ g n s j = (symT (cntT g (mostN g n)) s j : Nat) := by
 obtain ⟨st, sn⟩ := s
 cases st with
 | true => simp only [symZ, symT, if_true]; split <;> rfl
 | false =>
  obtain ⟨a, rfl⟩ : ∃ a : Nat, sn = a := ⟨sn.toNat, by have := hs rfl; simp at this; omega⟩
  have := (h.sym hj rfl hp).cen F (b := a) (by omega)
  simpa [symZ, symT] using this
def KnW (g : Gr) (n : Nat) (l : List (List Int × Int)) : Prop := ∀ (i p k : Nat) (w : Int) (r : Ru), mget l [(i : Int), (p : Int), (k : Int)] = some w → g.rs[i]? = some r → w = (rowT (cntT g (mostN g n)) (r.r.drop p) k : Nat)
def WayQ (g : Gr) (n bm : Nat) (x : Nat) (v : Value) (Γ : Ctx) : Prop := ∃ gm lst, Γ = [gm] ∧ v = .int .i64 (x : Int) ∧ MapM gm bm intsV (Value.int .i64) (okInts 3) lst ∧ KnW g n lst
def WaysC (g : Gr) (n b : Nat) (R : Option Addr) (cR : Nat) (An : Option Addr) (cn bm i p : Nat) (l : List Sy) : Prop := ∀ {k : Nat}, k ≤ n → InR g g.st n l k → ∀ {Γr : Ctx} {gm : PH} {lst : List (List Int × Int)}, BookK (lk Γr) b g n R cR An cn bm → MapM gm bm intsV (Value.int .i64) (okInts 3) lst → KnW g n lst →
 Ret Try.prog 197 [.pointer (some ⟨b, 0, none⟩), .int .i64 (i : Int), .int .i64 (p : Int), .int .i64 (k : Int)] Γr [gm] (WayQ g n bm (rowT (cntT g (mostN g n)) l k))
theorem part_of {g : Gr} {n : Nat} (F : Fine g n) (hn : n ≤ 24) {b : Nat} {R : Option Addr} {cR : Nat} {An : Option Addr} {cn bm i p : Nat} (hi : i < g.rs.length) (hp : p < g.rs[i].r.length) (hrec : WaysC g n b R cR An cn bm i (p + 1) (g.rs[i].r.drop (p + 1))) {j k : Nat} (hj : j ≤ k) (hk : k ≤ n) (hI : InR g g.st n (g.rs[i].r.drop p) k)
  {Γr : Ctx} {gm : PH} {lst : List (List Int × Int)} (hB : BookK (lk Γr) b g n R cR An cn bm) (hM : MapM gm bm intsV (Value.int .i64) (okInts 3) lst) (hK : KnW g n lst) :
  Ret Try.prog 211 [.pointer (some ⟨b, 0, none⟩), .int .i64 (i : Int), .int .i64 (p : Int), .int .i64 (j : Int), .int .i64 (k : Int)] Γr [gm] (WayQ g n bm (symT (cntT g (mostN g n)) g.rs[i].r[p] j * rowT (cntT g (mostN g n)) (g.rs[i].r.drop (p + 1)) (k - j))) := by
 generalize hRR : WayQ g n bm _ = R'
 refine ret_of_vc tr211 (Nat.le_of_ble_eq_true rfl) ?_
 simp -implicitDefEqProofs only [S211, S211_0, go_sem,zA,zB,zC,zD,zE,reduceCtorEq,↓reduceIte,zF,zG,zH,zI]
 have V := F.V
 have hmem := List.getElem_mem hi
 have hr4 := V.right _ hmem
 have hsym := V.sym _ hmem
 have hsh := hB.rs.short
 obtain ⟨b0, o0, h0, A1, c1, hr1, hcr⟩ := hB.rs.ru hi
 have hdrop : g.rs[i].r.drop p = g.rs[i].r[p] :: g.rs[i].r.drop (p + 1) := List.drop_eq_getElem_cons hp
 have hs := hsym _ (List.getElem_mem hp)
 obtain ⟨b3, o3, h3, hc3⟩ := hr1.sy hp
 rw [hdrop] at hI
 generalize hll : g.rs[i].r.drop (p + 1) = l at *
 generalize hss : g.rs[i].r[p] = s at *
 generalize g.rs[i].r = l0 at *
 have hvl := V.len
 refine s_ld (j := 3) (cells_lk (lk_r [gm] _ _ _ hB.out)) (by simp [bkC]) (by simp) ?_
 simp -implicitDefEqProofs only [bkC, go_sem,zA,zB,zC,zD,zE,reduceCtorEq,↓reduceIte,zF,zG,zH,zI]
 refine s_idx h0 (by omega) (by omega) ?_
 simp -implicitDefEqProofs only [go_sem,zA,zB,zC,zD,zE,reduceCtorEq,↓reduceIte,zF,zG,zH,zI]
 refine s_ld (j := 1) (by simpa using hcr _ (lk_r [gm] _)) (by simp) (by simp) ?_
 simp -implicitDefEqProofs only [go_sem,zA,zB,zC,zD,zE,reduceCtorEq,↓reduceIte,zF,zG,zH,zI]
 refine s_idx h3 (by omega) (by omega) ?_
 simp -implicitDefEqProofs only [go_sem,zA,zB,zC,zD,zE,reduceCtorEq,↓reduceIte,zF,zG,zH,zI]
 refine s_ld0 (by simpa using hc3 _ (lk_r [gm] _)) (by simp) (by simp) ?_
 simp -implicitDefEqProofs only [go_sem,zA,zB,zC,zD,zE,reduceCtorEq,↓reduceIte,zF,zG,zH,zI]
 refine CallVC.read (book_sym (Γr := [gm] ++ Γr) (hB.mono (lk_r [gm] _)) (fun h => ⟨hs.1, hs.2.2 h⟩) (j := j) (by omega) hn) ?_
 rintro v Γ' ⟨rfl, rfl⟩
 have hz := symZ_zero V (n := n) (s := s) (fun _ => hs.1) (j := j) (by omega)
 simp -implicitDefEqProofs only [go_sem,zA,zB,zC,zD,zE,reduceCtorEq,↓reduceIte,zF,zG,zH,zI]
 refine ⟨fun hz0 => Up.here ?_, fun hz1 => ?_⟩
 ·subst hRR
  rw [hz.1 hz0, Nat.zero_mul]
  exact ⟨gm, lst, rfl, rfl, hM, hK⟩
 ·have hpos : 0 < symT (cntT g (mostN g n)) s j := Nat.pos_of_ne_zero fun e => hz1 (hz.2 e)
  have hw1 : IntKind.i64.wrap ((p : Int) + 1) = ((p + 1 : Nat) : Int) := by rw [wrap_id (by omega) (by omega)]; rfl
  have hw2 : IntKind.i64.wrap ((k : Int) - (j : Int)) = ((k - j : Nat) : Int) := by rw [wrap_id (by omega) (by omega)]; omega
  rw [hw1, hw2]
  refine CallVC.perm (Γm := [gm]) (Γf := []) (hrec (k := k - j) (by omega) (hI.rest hj hpos) (Γr := Γr) hB hM hK) (List.Perm.refl _) (List.Sublist.refl _) ?_
  rintro v Γ' ⟨gm', lst', rfl, rfl, hM', hK'⟩
  simp -implicitDefEqProofs only [go_sem,zA,zB,zC,zD,zE,reduceCtorEq,↓reduceIte,zF,zG,zH,zI]
  refine Up.here ?_
  subst hRR
  refine ⟨gm', lst', rfl, ?_, hM', hK'⟩
  have hfew := hI.few F (mostN g n)
  have hfirst := row_first (cntT g (mostN g n)) s l hj
  rcases Nat.eq_zero_or_pos (rowT (cntT g (mostN g n)) l (k - j)) with e | e
  ·rw [e]
   simp [wrap_id]
  ·rw [symZ_in F (fun _ => hs.1) hk hj hI e, ← Int.natCast_mul, wrap_id (by omega) (by omega)]
theorem KnW.put {g : Gr} {n : Nat} {l : List (List Int × Int)} (h : KnW g n l) {i p k : Nat} {r : Ru} (hr : g.rs[i]? = some r) : KnW g n (mput l [(i : Int), (p : Int), (k : Int)] ((rowT (cntT g (mostN g n)) (r.r.drop p) k : Nat) : Int)) := by
 intro i' p' k' w r' h1 h2
 rw [mget_put] at h1
 split at h1
 ·rename_i e
  simp only [List.cons.injEq, and_true] at e
  obtain ⟨e1, e2, e3⟩ := e
  have e1 : i' = i := by omega
  have e2 : p' = p := by omega
  have e3 : k' = k := by omega
  subst e1 e2 e3
  rw [hr] at h2
  cases h2
  cases h1
  rfl
 ·exact h i' p' k' w r' h1 h2
theorem sumN_mono (f : Nat → Nat) {a b : Nat} (h : a ≤ b) : sumN f a ≤ sumN f b := by
 obtain ⟨d, rfl⟩ : ∃ d, b = a + d := ⟨b - a, by omega⟩
 clear h
 induction d with
 | zero => exact Nat.le_refl _
 | succ d ih => exact Nat.le_trans ih (Nat.le_add_right _ _)
theorem ways_all {g : Gr} {n : Nat} (F : Fine g n) (hn : n ≤ 24) {b : Nat} {R : Option Addr} {cR : Nat} {An : Option Addr} {cn bm i : Nat} (hi : i < g.rs.length) : ∀ (d p : Nat), p + d = g.rs[i].r.length → WaysC g n b R cR An cn bm i p (g.rs[i].r.drop p) := by
 intro d
 induction d with
 | zero =>
  intro p hp k hk hI Γr gm lst hB hM hK
  generalize hRR : WayQ g n bm _ = R'
  refine ret_of_vc tr197 (Nat.le_of_ble_eq_true rfl) ?_
  simp -implicitDefEqProofs only [S197, S197_0, go_sem,zA,zB,zC,zD,zE,reduceCtorEq,↓reduceIte,zF,zG,zH,zI]
  have hsh := hB.rs.short
  obtain ⟨b0, o0, h0, A1, c1, hr1, hcr⟩ := hB.rs.ru hi
  have hpl : p = g.rs[i].r.length := by omega
  rw [hpl, List.drop_length] at hRR
  generalize g.rs[i].r = l0 at *
  refine s_ld (j := 3) (cells_lk (lk_r [gm] _ _ _ hB.out)) (by simp [bkC]) (by simp) ?_
  simp -implicitDefEqProofs only [bkC, go_sem,zA,zB,zC,zD,zE,reduceCtorEq,↓reduceIte,zF,zG,zH,zI]
  refine s_idx h0 (by omega) (by omega) ?_
  simp -implicitDefEqProofs only [go_sem,zA,zB,zC,zD,zE,reduceCtorEq,↓reduceIte,zF,zG,zH,zI]
  refine s_ld (j := 1) (by simpa using hcr _ (lk_r [gm] _)) (by simp) (by simp) ?_
  simp -implicitDefEqProofs only [go_sem,zA,zB,zC,zD,zE,reduceCtorEq,↓reduceIte,zF,zG,zH,zI]
  refine ⟨fun _ => ⟨fun hk0 => Up.here ?_, fun hk1 => Up.here ?_⟩, fun hne => absurd (by omega) hne⟩
  ·subst hRR
   have : k = 0 := by omega
   subst this
   exact ⟨gm, lst, rfl, rfl, hM, hK⟩
  ·subst hRR
   refine ⟨gm, lst, rfl, ?_, hM, hK⟩
   show Value.int .i64 0 = .int .i64 ((if k = 0 then 1 else 0 : Nat) : Int)
   rw [if_neg (by omega)]
   rfl
 | succ d ih =>
  intro p hp k hk hI Γr gm lst hB hM hK
  have hpl : p < g.rs[i].r.length := by omega
  have hpart := fun {Γr : Ctx} {gm : PH} {lst : List (List Int × Int)} (j : Nat) (hj : j ≤ k) => @part_of g n F hn b R cR An cn bm i p hi hpl (ih (p + 1) (by omega)) j k hj hk hI Γr gm lst
  have hri := List.getElem?_eq_getElem hi
  have hput := fun (lst : List (List Int × Int)) (h : KnW g n lst) => h.put (p := p) (k := k) hri
  have hdrop : g.rs[i].r.drop p = g.rs[i].r[p] :: g.rs[i].r.drop (p + 1) := List.drop_eq_getElem_cons hpl
  have hfew := hI.few F (mostN g n)
  have hknown := fun w q => hK i p k w _ q hri
  have hr4 := F.V.right _ (List.getElem_mem hi)
  have hvl := F.V.len
  have hrow : rowT (cntT g (mostN g n)) (g.rs[i].r.drop p) k = sumN (fun j => symT (cntT g (mostN g n)) g.rs[i].r[p] j * rowT (cntT g (mostN g n)) (g.rs[i].r.drop (p + 1)) (k - j)) (k + 1) := by rw [hdrop]; rfl
  generalize hRR : WayQ g n bm _ = R'
  refine ret_of_vc tr197 (Nat.le_of_ble_eq_true rfl) ?_
  simp -implicitDefEqProofs only [S197, S197_0, go_sem,zA,zB,zC,zD,zE,reduceCtorEq,↓reduceIte,zF,zG,zH,zI]
  have hsh := hB.rs.short
  obtain ⟨b0, o0, h0, A1, c1, hr1, hcr⟩ := hB.rs.ru hi
  generalize hT : cntT g (mostN g n) = T at *
  generalize g.rs[i].r[p] = s at *
  generalize g.rs[i].r.drop (p + 1) = l at *
  generalize hX : rowT T (g.rs[i].r.drop p) k = X at *
  have hkok : okInts 3 [(i : Int), (p : Int), (k : Int)] := ⟨rfl, fun x hx => by
   simp only [List.mem_cons, List.not_mem_nil, or_false] at hx
   rcases hx with rfl | rfl | rfl <;> exact wf64 (by omega) (by omega)⟩
  refine s_ld (j := 3) (cells_lk (lk_r [gm] _ _ _ hB.out)) (by simp [bkC]) (by simp) ?_
  simp -implicitDefEqProofs only [bkC, go_sem,zA,zB,zC,zD,zE,reduceCtorEq,↓reduceIte,zF,zG,zH,zI]
  refine s_idx h0 (by omega) (by omega) ?_
  simp -implicitDefEqProofs only [go_sem,zA,zB,zC,zD,zE,reduceCtorEq,↓reduceIte,zF,zG,zH,zI]
  refine s_ld (j := 1) (by simpa using hcr _ (lk_r [gm] _)) (by simp) (by simp) ?_
  simp -implicitDefEqProofs only [go_sem,zA,zB,zC,zD,zE,reduceCtorEq,↓reduceIte,zF,zG,zH,zI]
  refine ⟨fun heq => absurd heq (by omega), fun _ => ?_⟩
  intro ba
  refine s_ld (j := 5) (cells_lk (lk_r [gm] _ _ _ hB.out)) (by simp [bkC]) (by simp) ?_
  simp -implicitDefEqProofs only [bkC, go_sem,zA,zB,zC,zD,zE,reduceCtorEq,↓reduceIte,zF,zG,zH,zI]
  rw [show Value.agg #[Value.int IntKind.i64 (i : Int), Value.int IntKind.i64 (p : Int), Value.int IntKind.i64 (k : Int)] = intsV [(i : Int), (p : Int), (k : Int)] from rfl]
  refine s_q trivial (qr_look kt_ipk (et := 3) (z := .int .i64 0) (by kernel_rfl) (zero_run (by kernel_rfl)) true (hM.l (by simp)) hkok) ?_
  cases hget : mget lst [(i : Int), (p : Int), (k : Int)] with
  | some w =>
   have hw := hknown w hget
   simp only [Option.elim_some, Option.isSome_some, if_true]
   simp -implicitDefEqProofs only [go_sem,zA,zB,zC,zD,zE,reduceCtorEq,↓reduceIte,zF,zG,zH,zI]
   refine Up.here ?_
   subst hRR
   exact ⟨gm, lst, rfl, by rw [hw], hM, hK⟩
  | none =>
   simp only [Option.elim_none, Option.isSome_none, if_true]
   have hw1 : IntKind.i64.wrap ((k : Int) + 1) = ((k + 1 : Nat) : Int) := by rw [wrap_id (by omega) (by omega)]; rfl
   have hM0 := hM
   have hK0 := hK
   clear hM hK hget hknown
   simp -implicitDefEqProofs only [hw1, go_sem,zA,zB,zC,zD,zE,reduceCtorEq,↓reduceIte,zF,zG,zH,zI]
   refine s_loop (fun f vs Γ => ∃ (gm : PH) (lst : List (List Int × Int)) (j : Nat), vs = [.v true (.int .i64 ((sumN (fun j => symT T s j * rowT T l (k - j)) j : Nat) : Int)), .v true (.int .i64 (j : Int))] ∧ Γ = [gm] ∧ j + f = k + 1 ∧ MapM gm bm intsV (Value.int .i64) (okInts 3) lst ∧ KnW g n lst) (k + 1)
    (Up.here ⟨gm, lst, 0, rfl, rfl, by omega, hM0, hK0⟩) ?_
   clear hM0 hK0
   rintro f vs Γ ⟨gm, lst, j, rfl, rfl, hjf, hM, hK⟩
   simp -implicitDefEqProofs only [S197_1, go_sem,zA,zB,zC,zD,zE,reduceCtorEq,↓reduceIte,zF,zG,zH,zI]
   refine ⟨fun hlt => ?_, fun hge => ?_⟩
   ·have hj : j ≤ k := by omega
    have hmo := sumN_mono (fun j => symT T s j * rowT T l (k - j)) (show j + 1 ≤ k + 1 by omega)
    rw [← hrow, sumN] at hmo
    have hw2 : IntKind.i64.wrap (((sumN (fun j => symT T s j * rowT T l (k - j)) j : Nat) : Int) + ((symT T s j * rowT T l (k - j) : Nat) : Int)) = ((sumN (fun j => symT T s j * rowT T l (k - j)) (j + 1) : Nat) : Int) := by
     rw [← Int.natCast_add, wrap_id (by omega) (by omega)]
     rfl
    refine CallVC.perm (Γm := [gm]) (Γf := []) (hpart j hj (Γr := Γr) hB hM hK) (List.Perm.refl _) (List.Sublist.refl _) ?_
    rintro v Γ' ⟨gm', lst', rfl, rfl, hM', hK'⟩
    simp -implicitDefEqProofs only [hw2, go_sem,zA,zB,zC,zD,zE,reduceCtorEq,↓reduceIte,zF,zG,zH,zI]
    simp (disch := omega) only [wrap_id]
    exact ⟨f - 1, by omega, Up.here ⟨gm', lst', j + 1, rfl, rfl, by omega, hM', hK'⟩⟩
   ·have hje : j = k + 1 := by omega
    subst hje
    rw [← hrow]
    refine s_ld (j := 5) (cells_lk (lk_r [gm] _ _ _ hB.out)) (by simp [bkC]) (by simp) ?_
    simp -implicitDefEqProofs only [bkC, go_sem,zA,zB,zC,zD,zE,reduceCtorEq,↓reduceIte,zF,zG,zH,zI]
    rw [show Value.agg #[Value.int IntKind.i64 (i : Int), Value.int IntKind.i64 (p : Int), Value.int IntKind.i64 (k : Int)] = intsV [(i : Int), (p : Int), (k : Int)] from rfl]
    refine s_upd kt_ipk (et := 3) (ix := 0) (eV := Value.int .i64) (by kernel_rfl) rfl hM (X : Int) hkok ?_
    intro gm' hM' _
    simp -implicitDefEqProofs only [go_sem,zA,zB,zC,zD,zE,reduceCtorEq,↓reduceIte,zF,zG,zH,zI]
    refine Up.here ?_
    subst hRR
    exact ⟨gm', _, rfl, rfl, hM', hput lst hK⟩
/- The text of parlance/tree.leaf as a statement; no condition. -/
def S139_0 : Stmt :=
 .seq
 (.region
 [oq 1 (.box true 106 (.tmp 0)),
 oq 2 (.mv (.const (.bool false)))]
 [1])
 (.seq
 (.region
 [oq 3 (.fld 0 (.tmp 1)),oq 4 (.load false 1 (.tmp 3)),
 oq 5 (.ibin .eql (.tmp 4) (.const (.int .i64 (-1)))),
 oq 2 (.mv (.tmp 5))]
 [2])
 .ret)
def S139 : FnS := ⟨6,[(2,none)],S139_0⟩
theorem tr139 : trFn Try.prog 139 [1] [[1],[2]] = some S139 := by kernel_rfl
/- The text of parlance/tree.Size as a statement; no condition. -/
def S67_1 : Stmt :=
 .seq
 (.region [oq 13 (.ibin .lss (.tmp 12) (.tmp 11))] [3,10,11,12,13])
 (.seq (.cond (.tmp 13) .skip (.exit 0))
 (.seq
 (.block 1
 (.seq
 (.region
 [oq 14 (.idx 3 (.tmp 10) (.tmp 12)),
 oq 15 (.load true 3 (.tmp 14)),
 .mk (some 5) none
 (.alloc true 106
 (.agg (Array.mk [.int .i64 0,.int .i64 0,.slice none 0 0]))),
 .mk none none (.store 3 (.tmp 5) (.tmp 15))]
 [3,5,10,11,12])
 (.region
 [oq 16 (.mv (.tmp 3)),
 oq 17 (.load true 3 (.tmp 5)),
 oq 18 (.call (.func 67) [.tmp 17]),
 oq 19 (.ibin .add (.tmp 16) (.tmp 18)),
 oq 3 (.mv (.tmp 19))]
 [3,10,11,12])))
 (.region
 [oq 20 (.ibin .add (.tmp 12) (.const (.int .i64 1))),
 oq 12 (.mv (.tmp 20))]
 [3,10,11,12])))
def S67_0 : Stmt :=
 .seq
 (.region
 [oq 1 (.box true 106 (.tmp 0)),
 oq 2 (.mv (.const (.int .i64 0)))]
 [1])
 (.seq (.region [oq 3 (.mv (.const (.int .i64 1)))] [1,3])
 (.seq
 (.seq
 (.region
 [oq 6 (.load true 3 (.tmp 1)),
 oq 7 (.call (.func 139) [.tmp 6])]
 [1,3,7])
 (.cond (.tmp 7)
 (.seq
 (.region
 [oq 8 (.mv (.tmp 3)),oq 2 (.mv (.tmp 8))] [2])
 .ret)
 .skip))
 (.seq
 (.seq
 (.region
 [oq 9 (.fld 2 (.tmp 1)),
 oq 10 (.load false 1 (.tmp 9)),
 oq 11 (.len false (.tmp 10)),
 oq 12 (.mv (.const (.int .i64 0)))]
 [3,10,11,12])
 (.block 0 (.loop S67_1 [3,12] [10,11])))
 (.seq
 (.region
 [oq 21 (.mv (.tmp 3)),oq 2 (.mv (.tmp 21))] [2])
 .ret))))
def S67 : FnS := ⟨22,[(2,none)],S67_0⟩
theorem tr67 : trFn Try.prog 67 [1,5] [[1],[1,3],[1,3,7],[2],[3,10,11,12],[3,12],[10,11],[3,10,11,12,13],[3,5,10,11,12],[3,10,11,12],[3,10,11,12],[2]] = some S67 := by kernel_rfl
/- The numbers of nodes of trees: tree.Size; no condition. -/
theorem tree_leaf {Γr : Ctx} (r t : Int) (A : Option Addr) (n c : Nat) :
  Ret Try.prog 139 [.agg #[.int .i64 r, .int .i64 t, .slice A n c]] Γr [] (fun v Γ => Γ = [] ∧ v = .bool (decide (r = -1))) := by
 generalize hR : (fun (v : Value) (Γ : Ctx) => Γ = [] ∧ _) = R
 refine ret_of_vc tr139 (Nat.le_of_ble_eq_true rfl) ?_
 simp -implicitDefEqProofs only [S139, S139_0, go_sem,zA,zB,zC,zD,zE,reduceCtorEq,↓reduceIte,zF,zG,zH,zI]
 refine Up.here ?_
 subst hR
 exact ⟨rfl, rfl⟩
theorem tree_sizeB {Γr : Ctx} (x : Tr) : ∀ {A : Option Addr} {c : Nat}, SlOk (lk Γr) A c x.kids → numT x ≤ 20000000000 →
  Ret Try.prog 67 [.agg #[.int .i64 x.rule, .int .i64 x.term, .slice A x.kids.length c]] Γr [] (fun v Γ => Γ = [] ∧ v = .int .i64 (szT x)) := by
 refine Tr.ind (p := fun x => ∀ {A : Option Addr} {c : Nat}, SlOk (lk Γr) A c x.kids → numT x ≤ 20000000000 → Ret Try.prog 67 [.agg #[.int .i64 x.rule, .int .i64 x.term, .slice A x.kids.length c]] Γr [] (fun v Γ => Γ = [] ∧ v = .int .i64 (szT x))) (fun x ih A c hx hn => ?_) x
 generalize hR : (fun (v : Value) (Γ : Ctx) => Γ = [] ∧ _) = R
 refine ret_of_vc tr67 (Nat.le_of_ble_eq_true rfl) ?_
 simp -implicitDefEqProofs only [S67, S67_0, go_sem,zA,zB,zC,zD,zE,reduceCtorEq,↓reduceIte,zF,zG,zH,zI]
 intro b1
 refine CallVC.read (tree_leaf _ _ _ _ _) ?_
 rintro v Γ' ⟨rfl, rfl⟩
 simp -implicitDefEqProofs only [go_sem,zA,zB,zC,zD,zE,reduceCtorEq,↓reduceIte,zF,zG,zH,zI]
 refine ⟨fun h => Up.here ?_, fun h => ?_⟩
 ·subst hR
  exact ⟨rfl, by rw [szT_eq, if_pos h]; rfl⟩
 have hn1 := numT_eq x
 have hlen := numL_len x.kids
 refine s_loop (fun f vs Γ => Γ = [] ∧ ∃ k : Nat, vs = [.v true (.int .i64 (1 + szL (x.kids.take k) : Nat)), .v true (.int .i64 k)] ∧ k + f = x.kids.length) x.kids.length (Up.here ⟨rfl, 0, rfl, by omega⟩) ?_
 rintro f vs Γ ⟨rfl, k, rfl, hkf⟩
 simp -implicitDefEqProofs only [S67_1, go_sem,zA,zB,zC,zD,zE,reduceCtorEq,↓reduceIte,zF,zG,zH,zI]
 refine ⟨fun hlt => ?_, fun hge => ?_⟩
 ·have hk : k < x.kids.length := by omega
  obtain ⟨b, o, hA, A', c', hs', hc⟩ := hx.tr hk
  have hm := List.getElem_mem hk
  have hst : szL (x.kids.take (k + 1)) = szL (x.kids.take k) + szT x.kids[k] := by
   rw [List.take_succ_eq_append_getElem hk, szL_append]
   simp [szL]
  have hnk := numL_mem hm
  have hle : numL (x.kids.take k) + numT x.kids[k] ≤ numL x.kids := by
   have h1 : numL (x.kids.take (k + 1)) = numL (x.kids.take k) + numT x.kids[k] := by
    rw [List.take_succ_eq_append_getElem hk, numL_append]
    simp [numL]
   have h2 := numL_append (x.kids.take (k + 1)) (x.kids.drop (k + 1))
   rw [List.take_append_drop] at h2
   omega
  have hs1 : szL (x.kids.take k) ≤ numL (x.kids.take k) := szL_le fun y _ => szT_le y
  have hs2 := szT_le x.kids[k]
  refine s_idx hA (by omega) (by omega) ?_
  simp -implicitDefEqProofs only [go_sem,zA,zB,zC,zD,zE,reduceCtorEq,↓reduceIte,zF,zG,zH,zI]
  refine s_ld0 (hc _ (Mem.le.refl _)) (by simp) (by simp) ?_
  simp -implicitDefEqProofs only [go_sem,zA,zB,zC,zD,zE,reduceCtorEq,↓reduceIte,zF,zG,zH,zI]
  intro b5
  refine CallVC.read (ih _ hm hs' (by omega)) ?_
  rintro v Γ' ⟨rfl, rfl⟩
  simp -implicitDefEqProofs only [go_sem,zA,zB,zC,zD,zE,reduceCtorEq,↓reduceIte,zF,zG,zH,zI]
  simp (disch := omega) only [wrap_id]
  exact ⟨f - 1, by omega, Up.here ⟨rfl, k + 1, by rw [hst]; congr 3; omega, by omega⟩⟩
 ·have hk : k = x.kids.length := by omega
  rw [hk, List.take_length]
  refine Up.here ?_
  subst hR
  exact ⟨rfl, by rw [szT_eq, if_neg h]⟩
/- Library functions on symbols, rules and words; no condition. -/
theorem Row.cut {α : Type} [Rep α] {g : PH} {L : Mem} {e : TypeId} {sz n : Nat} {A : Option Addr} {m c : Nat} {xs : List Value} (hsz : sz = Rep.sz α) (h : Row g e sz (.slice A m c) n xs) : Bld (α := α) g L e (.slice A 0 c) [] := by
 subst hsz
 rcases h.2 with ⟨q0, A', q⟩ | ⟨b, o, cap, cur, q1, q2, q3, q4, q5, q6⟩
 ·simp only [Value.slice.injEq] at q
  obtain ⟨rfl, rfl, rfl⟩ := q
  exact ⟨[], ⟨by simp, .inl ⟨rfl, _, rfl⟩⟩, by simp⟩
 ·simp only [Value.slice.injEq] at q1
  obtain ⟨rfl, rfl, rfl⟩ := q1
  exact ⟨[], ⟨by simp, .inr ⟨b, o, cap, cur, rfl, by simp, q3, q4, q5, by simp⟩⟩, by simp⟩
/- Symbols, rules and lists of them are the same; no condition. -/
def sv (s : Sy) : Value := .agg #[.bool s.t, .int .i64 s.n]
theorem sy_fields : (Try.prog.fieldsOf 39).toList.map (fun f => (f.name != "_", f.type, f.offset)) = [(true, 4, 0), (true, 3, 1)] := by kernel_rfl
theorem two_fields {fs : List Field} {a b : TypeId} {n m : Nat} (h : fs.map (fun f => (f.name != "_", f.type, f.offset)) = [(true, a, n), (true, b, m)]) : ∃ f g, fs = [f, g] ∧ f.name ≠ "_" ∧ g.name ≠ "_" ∧ f.type = a ∧ f.offset = n ∧ g.type = b ∧ g.offset = m := by
 have hl := congrArg List.length h
 simp at hl
 obtain ⟨f, g, rfl⟩ : ∃ f g, fs = [f, g] := by
  cases fs with
  | nil => simp at hl
  | cons f r =>
   cases r with
   | nil => simp at hl
   | cons g r =>
    cases r with
    | nil => exact ⟨f, g, rfl⟩
    | cons _ _ => simp at hl
 simp only [List.map_cons, List.map_nil, List.cons.injEq, Prod.mk.injEq, bne_iff_ne, ne_eq, and_true] at h
 exact ⟨f, g, rfl, h.1.1, h.2.1, h.1.2.1, h.1.2.2, h.2.2.1, h.2.2.2⟩
theorem qr_neqsy (x y : Sy) (Γ : Ctx) (ox oy : Operand) : QR Try.prog (.bin .neq 39 ox oy) [sv x, sv y] Γ (.bool (!decide (x = y))) := by
 intro w _
 obtain ⟨f, g, hf, n1, n2, t1, o1, t2, o2⟩ := two_fields sy_fields
 have h0 : Try.prog.underlying 39 = some (.struct (Try.prog.fieldsOf 39)) := by kernel_rfl
 have h1 : Try.prog.stoodInHeld 39 = false := by kernel_rfl
 have h2 : Try.prog.eqGuardType Try.prog.depth 39 = false := by kernel_rfl
 have h3 : Try.prog.underlying 4 = some .bool := by kernel_rfl
 have h4 : Try.prog.underlying 3 = some (.int .i64) := by kernel_rfl
 have k3 : Try.prog.plainKey 4 = true := by kernel_rfl
 have k4 : Try.prog.plainKey 3 = true := by kernel_rfl
 have p1 : ∀ (t : Bool) (n : Int), (Go.part 4 #[.bool t, .int .i64 n] 0).run Try.prog w = .ok (.bool t) w := fun t n => run_part_plain w k3 (by simp)
 have p2 : ∀ (t : Bool) (n : Int), (Go.part 3 #[.bool t, .int .i64 n] 1).run Try.prog w = .ok (.int .i64 n) w := fun t n => run_part_plain w k4 (by simp)
 simp only [qsem, sv, Sem.run_bind]
 rw [run_eqGuard_agg w .neq 39 ox oy _ _ h2]
 simp only [Result.andThen_ok]
 rw [run_neq_struct, run_equalIn_agg w 9999 39 _ _ h0 h1, hf]
 simp only [Op.eqFields, if_pos n1, if_pos n2, t1, t2, o1, o2, Sem.run_bind, p1, p2, Result.andThen_ok, run_equalIn_bool w 9998 4 _ _ h3, run_equalIn_int w 9998 3 _ _ _ _ h4]
 obtain ⟨xt, xn⟩ := x
 obtain ⟨yt, yn⟩ := y
 by_cases e1 : xt = yt <;> by_cases e2 : xn = yn <;> simp [e1, e2, Op.eqFields, p2, run_equalIn_int w 9998 3 .i64 .i64 _ _ h4]
/- The text of parlance/tree.symbol as a statement; no condition. -/
def S180_0 : Stmt :=
 .seq
 (.region
 [oq 2 (.box true 57 (.tmp 0)),
 oq 3 (.box true 106 (.tmp 1)),
 oq 4 (.alloc true 39 (.agg (Array.mk [.bool false,.int .i64 0]))),
 oq 5 (.mv (.const (.bool false)))]
 [2,3,4])
 (.seq
 (.seq
 (.region
 [oq 6 (.load true 3 (.tmp 3)),
 oq 7 (.call (.func 139) [.tmp 6])]
 [2,3,4,7])
 (.cond (.tmp 7)
 (.seq
 (.drawnB
 [(false,oq 8 (.fld 1 (.tmp 3))),
 (false,oq 9 (.loadB (some 3) false 1 (.tmp 8))),
 (false,
 .mk (some 10) none
 (.build 39 [.bool false,.int .i64 0]
 [(0,1,.const (.bool true)),(1,1,.tmp 9)])),
 (false,oq 11 (.fld 1 (.tmp 3))),
 (false,oq 12 (.loadB (some 3) false 1 (.tmp 11))),
 (false,
 .mk (some 13) none
 (.ibin .geq (.tmp 12) (.const (.int .i64 0)))),
 (false,oq 14 (.mv (.tmp 13))),
 (false,.mk (some 15) (some (14,true)) (.fld 1 (.tmp 3))),
 (false,.mk (some 16) (some (14,true)) (.loadB (some 3) false 1 (.tmp 15))),
 (false,.mk (some 17) (some (14,true)) (.fld 0 (.tmp 2))),
 (false,.mk (some 18) (some (14,true)) (.loadB (some 2) false 1 (.tmp 17))),
 (false,.mk (some 19) (some (14,true)) (.ibin .lss (.tmp 16) (.tmp 18))),
 (false,
 .mk (some 20) none
 (.pick (.tmp 14) (.tmp 19) (.const (.bool false)))),
 (false,oq 21 (.mv (.tmp 20))),
 (false,.mk (some 22) (some (21,true)) (.fld 2 (.tmp 3))),
 (false,.mk (some 23) (some (21,true)) (.loadB (some 3) false 1 (.tmp 22))),
 (false,.mk (some 24) (some (21,true)) (.len false (.tmp 23))),
 (false,
 .mk (some 25) (some (21,true))
 (.ibin .eql (.tmp 24) (.const (.int .i64 0)))),
 (false,
 .mk (some 26) none
 (.pick (.tmp 21) (.tmp 25) (.const (.bool false)))),
 (false,.mk none none (.store 2 (.tmp 4) (.tmp 10))),
 (false,oq 5 (.mv (.tmp 26)))]
 [4,5])
 .ret)
 .skip))
 (.seq
 (.seq
 (.region
 [oq 27 (.fld 0 (.tmp 3)),
 oq 28 (.load false 1 (.tmp 27)),
 oq 29 (.ibin .lss (.tmp 28) (.const (.int .i64 0))),
 oq 30 (.mv (.tmp 29)),
 .mk (some 31) (some (30,false)) (.fld 0 (.tmp 3)),
 .mk (some 32) (some (30,false)) (.load false 1 (.tmp 31)),
 .mk (some 33) (some (30,false)) (.fld 3 (.tmp 2)),
 .mk (some 34) (some (30,false)) (.load false 1 (.tmp 33)),
 .mk (some 35) (some (30,false)) (.len false (.tmp 34)),
 .mk (some 36) (some (30,false)) (.ibin .geq (.tmp 32) (.tmp 35)),
 oq 37 (.pick (.tmp 30) (.const (.bool true)) (.tmp 36))]
 [2,3,4,37])
 (.cond (.tmp 37)
 (.seq
 (.region
 [oq 38 (.build 39 [.bool false,.int .i64 0] []),
 .mk none none (.store 2 (.tmp 4) (.tmp 38)),
 oq 5 (.mv (.const (.bool false)))]
 [4,5])
 .ret)
 .skip))
 (.seq
 (.drawnB
 [(false,oq 39 (.fld 3 (.tmp 2))),
 (false,oq 40 (.loadB (some 2) false 1 (.tmp 39))),
 (false,oq 41 (.fld 0 (.tmp 3))),
 (false,oq 42 (.loadB (some 3) false 1 (.tmp 41))),
 (false,oq 43 (.idx 2 (.tmp 40) (.tmp 42))),
 (false,oq 44 (.fld 0 (.tmp 43))),
 (false,oq 45 (.loadB none false 1 (.tmp 44))),
 (false,
 .mk (some 46) none
 (.build 39 [.bool false,.int .i64 0] [(1,1,.tmp 45)])),
 (false,oq 47 (.fld 1 (.tmp 3))),
 (false,oq 48 (.loadB (some 3) false 1 (.tmp 47))),
 (false,
 oq 49 (.ibin .eql (.tmp 48) (.const (.int .i64 0)))),
 (false,.mk none none (.store 2 (.tmp 4) (.tmp 46))),
 (false,oq 5 (.mv (.tmp 49)))]
 [4,5])
 .ret)))
def S180 : FnS := ⟨50,[(4,some (true,2)),(5,none)],S180_0⟩
theorem tr180 : trFn Try.prog 180 [2,3,4] [[2,3,4],[2,3,4,7],[4,5],[],[],[0,5,0,0,5,0,0,0,5,0,4,0,0,0,0,5,0,0,0,0,0],[0,1,2,3,4,5,6,7,8,9,10,11,12,13,14,15,16,17,18,19,20],[],[],[0],[0,1],[],[3],[3,4],[3,4,5],[3,4,5,6],[3,4,5,6,7],[3,4,5,6],[3,4,5,6,9],[3,4,5,6,7,8,9,10],[3,4,5,6,7,8,9,10,11],[3,4,5,6,7,8,9,10,11,12],[3,4,5,6,7,8,9,10,11,12,13],[3,4,5,6,7,8,9,10,11,12,13,14],[3,4,5,6,7,8,9,10,11,12,13,14,15],[3,4,5,6,7,8,9,10,11,12,13,14,15,16],[3,4,5,6,7,8,9,10,11,12,13,14,15,16,17],[0,1,2,3,4,5,6,7,8,9,10,11,12,13],[0,1,2,3,4,5,6,7,8,9,10,11,12,13,14,15,16,17,18,19],[2,3,4,37],[4,5],[4,5],[],[],[0,4,0,5,0,0,1,0,0,5,0,0,0],[0,1,2,3,4,5,6,7,8,9,10,11,12],[],[],[0],[],[2],[0,1,2,3],[0,1,2,3,4],[0,1,2,3,4,5],[0,1,2,3,4,5,6],[],[8],[8,9],[0,1,2,3,4,5,6,7],[0,1,2,3,4,5,6,7,8,9,10,11]] = some S180 := by kernel_rfl
/- The text of parlance/tree.valid as a statement; no condition. -/
def S140_1 : Stmt :=
 .seq
 (.region [oq 42 (.ibin .lss (.tmp 41) (.tmp 40))] [2,7,39,40,41,42])
 (.seq (.cond (.tmp 42) .skip (.exit 0))
 (.seq
 (.block 1
 (.seq
 (.region
 [oq 43 (.mv (.tmp 41)),
 oq 44 (.idx 3 (.tmp 39) (.tmp 41)),
 oq 45 (.load true 3 (.tmp 44)),
 .mk (some 9) none
 (.alloc true 106
 (.agg (Array.mk [.int .i64 0,.int .i64 0,.slice none 0 0]))),
 oq 8 (.mv (.tmp 43)),
 .mk none none (.store 3 (.tmp 9) (.tmp 45))]
 [2,7,8,9,39,40,41])
 (.seq
 (.region
 [oq 47 (.load true 4 (.tmp 2)),
 oq 48 (.load true 3 (.tmp 9)),
 oq 49 (.call (.func 180) [.tmp 47,.tmp 48]),
 oq 46 (.mv (.tmp 49)),
 oq 50 (.extract 0 (.tmp 46)),
 oq 51 (.extract 1 (.tmp 46)),
 .mk (some 10) none
 (.alloc true 39 (.agg (Array.mk [.bool false,.int .i64 0]))),
 .mk none none (.store 2 (.tmp 10) (.tmp 50)),
 oq 11 (.mv (.tmp 51))]
 [2,7,8,9,10,11,39,40,41])
 (.seq
 (.drawn
 [(false,oq 52 (.mv (.tmp 11))),
 (false,oq 53 (.un .not (.tmp 52))),
 (false,oq 54 (.mv (.tmp 53))),
 (false,.mk (some 55) (some (54,false)) (.load true 2 (.tmp 10))),
 (false,.mk (some 56) (some (54,false)) (.mv (.tmp 7))),
 (false,.mk (some 57) (some (54,false)) (.mv (.tmp 8))),
 (false,.mk (some 58) (some (54,false)) (.idx 2 (.tmp 56) (.tmp 57))),
 (false,.mk (some 59) (some (54,false)) (.load true 2 (.tmp 58))),
 (false,
 .mk (some 60) (some (54,false))
 (.q (Qk.bin .neq 39 (.tmp 55) (.tmp 59)) [.tmp 55,.tmp 59])),
 (false,
 .mk (some 61) none
 (.pick (.tmp 54) (.const (.bool true)) (.tmp 60))),
 (false,oq 62 (.mv (.tmp 61))),
 (false,.mk (some 63) (some (62,false)) (.load true 4 (.tmp 2))),
 (false,.mk (some 64) (some (62,false)) (.load true 3 (.tmp 9))),
 (false,
 .mk (some 65) (some (62,false))
 (.call (.func 140) [.tmp 63,.tmp 64])),
 (false,.mk (some 66) (some (62,false)) (.un .not (.tmp 65))),
 (false,
 .mk (some 67) none
 (.pick (.tmp 62) (.const (.bool true)) (.tmp 66)))]
 [2,7,39,40,41,67])
 (.cond (.tmp 67)
 (.seq (.region [oq 4 (.mv (.const (.bool false)))] [4])
 .ret)
 .skip)))))
 (.region
 [oq 68 (.ibin .add (.tmp 41) (.const (.int .i64 1))),
 oq 41 (.mv (.tmp 68))]
 [2,7,39,40,41])))
def S140_0 : Stmt :=
 .seq
 (.region
 [oq 2 (.box true 57 (.tmp 0)),
 oq 3 (.box true 106 (.tmp 1)),
 oq 4 (.mv (.const (.bool false)))]
 [2,3])
 (.seq
 (.seq
 (.region
 [oq 13 (.load true 4 (.tmp 2)),
 oq 14 (.load true 3 (.tmp 3)),
 oq 15 (.call (.func 180) [.tmp 13,.tmp 14]),
 oq 12 (.mv (.tmp 15)),oq 16 (.extract 0 (.tmp 12)),
 oq 17 (.extract 1 (.tmp 12)),
 oq 5 (.alloc true 39 (.agg (Array.mk [.bool false,.int .i64 0]))),
 .mk none none (.store 2 (.tmp 5) (.tmp 16)),
 oq 6 (.mv (.tmp 17))]
 [2,3,6])
 (.seq
 (.region
 [oq 18 (.mv (.tmp 6)),oq 19 (.un .not (.tmp 18)),
 oq 20 (.mv (.tmp 19)),
 .mk (some 21) (some (20,false)) (.load true 3 (.tmp 3)),
 .mk (some 22) (some (20,false)) (.call (.func 139) [.tmp 21]),
 oq 23 (.pick (.tmp 20) (.const (.bool true)) (.tmp 22))]
 [2,3,6,23])
 (.cond (.tmp 23)
 (.seq
 (.region
 [oq 24 (.mv (.tmp 6)),oq 4 (.mv (.tmp 24))] [4])
 .ret)
 .skip)))
 (.seq
 (.region
 [oq 25 (.fld 3 (.tmp 2)),
 oq 26 (.load false 1 (.tmp 25)),
 oq 27 (.fld 0 (.tmp 3)),
 oq 28 (.load false 1 (.tmp 27)),
 oq 29 (.idx 2 (.tmp 26) (.tmp 28)),
 oq 30 (.fld 1 (.tmp 29)),
 oq 31 (.load false 1 (.tmp 30)),oq 7 (.mv (.tmp 31))]
 [2,3,7])
 (.seq
 (.seq
 (.region
 [oq 32 (.fld 2 (.tmp 3)),
 oq 33 (.load false 1 (.tmp 32)),
 oq 34 (.len false (.tmp 33)),
 oq 35 (.mv (.tmp 7)),
 oq 36 (.len false (.tmp 35)),
 oq 37 (.ibin .neq (.tmp 34) (.tmp 36))]
 [2,3,7,37])
 (.cond (.tmp 37)
 (.seq (.region [oq 4 (.mv (.const (.bool false)))] [4]) .ret)
 .skip))
 (.seq
 (.seq
 (.region
 [oq 38 (.fld 2 (.tmp 3)),
 oq 39 (.load false 1 (.tmp 38)),
 oq 40 (.len false (.tmp 39)),
 oq 41 (.mv (.const (.int .i64 0)))]
 [2,7,39,40,41])
 (.block 0 (.loop S140_1 [41] [2,7,39,40])))
 (.seq (.region [oq 4 (.mv (.const (.bool true)))] [4]) .ret)))))
def S140 : FnS := ⟨69,[(4,none)],S140_0⟩
theorem tr140 : trFn Try.prog 140 [2,3,5,9,10] [[2,3],[2,3,6],[2,3,6,23],[4],[2,3,7],[2,3,7,37],[4],[2,7,39,40,41],[41],[2,7,39,40],[2,7,39,40,41,42],[2,7,8,9,39,40,41],[2,7,8,9,10,11,39,40,41],[2,7,39,40,41,67],[0,1,2,3,4,5,6,7,8,9,10,11,12,13,14,15],[],[],[0],[0,1],[0,1,2],[0,1,2],[0,1,2],[0,1,2,4,5],[0,1,2,4,5,6],[0,1,2,3,4,5,6,7],[0,1,2,3,4,5,6,7,8],[0,1,2,3,4,5,6,7,8,9],[0,1,2,3,4,5,6,7,8,9,10],[0,1,2,3,4,5,6,7,8,9,10],[0,1,2,3,4,5,6,7,8,9,10,11,12],[0,1,2,3,4,5,6,7,8,9,10,11,12,13],[0,1,2,3,4,5,6,7,8,9,10,11,12,13,14],[4],[2,7,39,40,41],[4]] = some S140 := by kernel_rfl
/- The text of parlance/tree.Check as a statement; no condition. -/
def S69_0 : Stmt :=
 .seq
 (.region
 [oq 2 (.box true 57 (.tmp 0)),
 oq 3 (.box true 106 (.tmp 1)),
 oq 4 (.mv (.const (.int .i64 0)))]
 [2,3])
 (.seq
 (.seq
 (.region
 [oq 6 (.load true 4 (.tmp 2)),
 oq 7 (.call (.func 112) [.tmp 6]),
 oq 5 (.mv (.tmp 7))]
 [2,3,5])
 (.seq
 (.region
 [oq 8 (.mv (.tmp 5)),
 oq 9 (.ibin .neq (.tmp 8) (.const (.int .i64 0)))]
 [2,3,5,9])
 (.cond (.tmp 9)
 (.seq
 (.region
 [oq 10 (.mv (.tmp 5)),oq 4 (.mv (.tmp 10))] [4])
 .ret)
 .skip)))
 (.seq
 (.seq
 (.region
 [oq 11 (.load true 3 (.tmp 3)),
 oq 12 (.call (.func 67) [.tmp 11]),
 oq 13 (.ibin .gtr (.tmp 12) (.const (.int .i64 5000)))]
 [2,3,13])
 (.cond (.tmp 13)
 (.seq (.region [oq 4 (.mv (.const (.int .i64 2)))] [4])
 .ret)
 .skip))
 (.seq
 (.seq
 (.region
 [oq 14 (.load true 4 (.tmp 2)),
 oq 15 (.load true 3 (.tmp 3)),
 oq 16 (.call (.func 140) [.tmp 14,.tmp 15]),
 oq 17 (.un .not (.tmp 16))]
 [17])
 (.cond (.tmp 17)
 (.seq (.region [oq 4 (.mv (.const (.int .i64 3)))] [4])
 .ret)
 .skip))
 (.seq (.region [oq 4 (.mv (.const (.int .i64 0)))] [4])
 .ret))))
def S69 : FnS := ⟨18,[(4,none)],S69_0⟩
theorem tr69 : trFn Try.prog 69 [2,3] [[2,3],[2,3,5],[2,3,5,9],[4],[2,3,13],[4],[17],[4],[4]] = some S69 := by kernel_rfl
/- Which trees are those of a grammar: tree.symbol, valid, Check; no condition. -/
/-- the symbol of a tree, and whether it exists -/
def symF (g : Gr) (x : Tr) : Sy × Bool :=
 if x.rule = -1 then (⟨true, x.term⟩, decide (0 ≤ x.term ∧ x.term < g.ts ∧ x.kids.length = 0))
 else if x.rule < 0 ∨ (g.rs.length : Int) ≤ x.rule then (⟨false, 0⟩, false)
 else (⟨false, (g.rs.getD x.rule.toNat ⟨0, []⟩).l⟩, decide (x.term = 0))
theorem tree_symbol {Γr : Ctx} {g : Gr} {B : Option Addr} {d : Nat} (hg : SlOk (lk Γr) B d g.rs) (x : Tr) {A : Option Addr} {c : Nat} (hs : x.kids.length ≤ 1048576) :
  Ret Try.prog 180 [.agg #[.int .i64 g.ts, .int .i64 g.ns, .int .i64 g.st, .slice B g.rs.length d], .agg #[.int .i64 x.rule, .int .i64 x.term, .slice A x.kids.length c]] Γr []
   (fun v Γ => Γ = [] ∧ v = .tuple #[sv (symF g x).1, .bool (symF g x).2]) := by
 generalize hR : (fun (v : Value) (Γ : Ctx) => Γ = [] ∧ _) = R
 refine ret_of_vc tr180 (Nat.le_of_ble_eq_true rfl) ?_
 simp -implicitDefEqProofs only [S180, S180_0, go_sem,zA,zB,zC,zD,zE,reduceCtorEq,↓reduceIte,zF,zG,zH,zI]
 intro b1 b2 b3
 refine CallVC.read (tree_leaf _ _ _ _ _) ?_
 rintro v Γ' ⟨rfl, rfl⟩
 simp -implicitDefEqProofs only [go_sem,zA,zB,zC,zD,zE,reduceCtorEq,↓reduceIte,zF,zG,zH,zI]
 refine ⟨fun h => Up.here ?_, fun h => ⟨fun h2 => Up.here ?_, fun h2 => ?_⟩⟩
 ·subst hR
  refine ⟨rfl, ?_⟩
  have e : (decide (0 ≤ x.term) && decide (x.term < g.ts) && decide ((x.kids.length : Int) = 0)) = decide (0 ≤ x.term ∧ x.term < g.ts ∧ x.kids.length = 0) := by
   rw [Bool.eq_iff_iff]
   simp only [Bool.and_eq_true, decide_eq_true_eq]
   omega
  simp only [symF, if_pos h, sv, e]
 ·subst hR
  refine ⟨rfl, ?_⟩
  simp only [symF, if_neg h, if_pos h2, sv]
 ·have hk : x.rule.toNat < g.rs.length := by omega
  obtain ⟨b, o, hB, A2, c2, hs2, hc2⟩ := hg.ru hk
  refine s_idx hB (by omega) (by omega) ?_
  simp -implicitDefEqProofs only [go_sem,zA,zB,zC,zD,zE,reduceCtorEq,↓reduceIte,zF,zG,zH,zI]
  refine s_ld0 (hc2 _ (Mem.le.refl _)) (by simp) (by simp) ?_
  simp -implicitDefEqProofs only [go_sem,zA,zB,zC,zD,zE,reduceCtorEq,↓reduceIte,zF,zG,zH,zI]
  refine Up.here ?_
  subst hR
  refine ⟨rfl, ?_⟩
  rw [symF, if_neg h, if_neg (by omega)]
  simp [sv, List.getD, hk]
mutual
/-- a tree of a grammar -/
def validT (g : Gr) : Tr → Bool
 | ⟨r, t, ks⟩ => (symF g ⟨r, t, ks⟩).2 && (decide (r = -1) || validL g ks (g.rs.getD r.toNat ⟨0, []⟩).r)
def validL (g : Gr) : List Tr → List Sy → Bool
 | [], [] => true
 | k :: ks, s :: ss => (symF g k).2 && decide ((symF g k).1 = s) && validT g k && validL g ks ss
 | _, _ => false
end
theorem validT_eq (g : Gr) (x : Tr) : validT g x = ((symF g x).2 && (decide (x.rule = -1) || validL g x.kids (g.rs.getD x.rule.toNat ⟨0, []⟩).r)) := by
 cases x
 simp only [validT, Tr.rule, Tr.kids]
 congr
theorem validL_len {g : Gr} : ∀ {ks : List Tr} {ss : List Sy}, ks.length ≠ ss.length → validL g ks ss = false
 | [], [], h => absurd rfl h
 | [], s :: ss, _ => by simp [validL]
 | k :: ks, [], _ => by simp [validL]
 | k :: ks, s :: ss, h => by
  have := validL_len (g := g) (ks := ks) (ss := ss) (by simpa using h)
  simp [validL, this]
theorem validL_iff {g : Gr} : ∀ {ks : List Tr} {ss : List Sy}, ks.length = ss.length → (validL g ks ss = true ↔ ∀ (i : Nat) (hi : i < ks.length) (hj : i < ss.length), (symF g ks[i]).2 = true ∧ (symF g ks[i]).1 = ss[i] ∧ validT g ks[i] = true)
 | [], [], _ => by simp [validL]
 | k :: ks, s :: ss, h => by
  have ih := validL_iff (g := g) (ks := ks) (ss := ss) (by simpa using h)
  simp only [validL, Bool.and_eq_true, decide_eq_true_eq, ih]
  constructor
  ·rintro ⟨⟨⟨h1, h2⟩, h3⟩, h4⟩ i hi hj
   cases i with
   | zero => exact ⟨h1, h2, h3⟩
   | succ i => exact h4 i (by simpa using hi) (by simpa using hj)
  ·intro hall
   have h0 := hall 0 (by simp) (by simp)
   exact ⟨⟨⟨h0.1, h0.2.1⟩, h0.2.2⟩, fun i hi hj => hall (i + 1) (by simpa using hi) (by simpa using hj)⟩
theorem tree_valid {Γr : Ctx} {g : Gr} {B : Option Addr} {d : Nat} (hg : SlOk (lk Γr) B d g.rs) (x : Tr) : ∀ {A : Option Addr} {c : Nat}, SlOk (lk Γr) A c x.kids → numT x ≤ 1048576 →
  Ret Try.prog 140 [.agg #[.int .i64 g.ts, .int .i64 g.ns, .int .i64 g.st, .slice B g.rs.length d], .agg #[.int .i64 x.rule, .int .i64 x.term, .slice A x.kids.length c]] Γr [] (fun v Γ => Γ = [] ∧ v = .bool (validT g x)) := by
 refine Tr.ind (p := fun x => ∀ {A : Option Addr} {c : Nat}, SlOk (lk Γr) A c x.kids → numT x ≤ 1048576 → Ret Try.prog 140 [.agg #[.int .i64 g.ts, .int .i64 g.ns, .int .i64 g.st, .slice B g.rs.length d], .agg #[.int .i64 x.rule, .int .i64 x.term, .slice A x.kids.length c]] Γr [] (fun v Γ => Γ = [] ∧ v = .bool (validT g x))) (fun x ih A c hx hn => ?_) x
 generalize hR : (fun (v : Value) (Γ : Ctx) => Γ = [] ∧ _) = R
 refine ret_of_vc tr140 (Nat.le_of_ble_eq_true rfl) ?_
 have hn1 := numT_eq x
 have hlen := numL_len x.kids
 simp -implicitDefEqProofs only [S140, S140_0, go_sem,zA,zB,zC,zD,zE,reduceCtorEq,↓reduceIte,zF,zG,zH,zI]
 intro b1 b2
 refine CallVC.read (tree_symbol hg x (by omega)) ?_
 rintro v Γ' ⟨rfl, rfl⟩
 simp -implicitDefEqProofs only [sv, go_sem,zA,zB,zC,zD,zE,reduceCtorEq,↓reduceIte,zF,zG,zH,zI]
 cases hsy : (symF g x).2 with
 | false =>
  simp -implicitDefEqProofs only [go_sem,zA,zB,zC,zD,zE,reduceCtorEq,↓reduceIte,zF,zG,zH,zI]
  refine ⟨.bool false, ?_⟩
  simp -implicitDefEqProofs only [go_sem,zA,zB,zC,zD,zE,reduceCtorEq,↓reduceIte,zF,zG,zH,zI]
  refine Up.here ?_
  subst hR
  refine ⟨rfl, ?_⟩
  rw [validT_eq, hsy]
  rfl
 | true =>
  simp -implicitDefEqProofs only [go_sem,zA,zB,zC,zD,zE,reduceCtorEq,↓reduceIte,zF,zG,zH,zI]
  refine CallVC.read (tree_leaf _ _ _ _ _) ?_
  rintro v Γ' ⟨rfl, rfl⟩
  simp -implicitDefEqProofs only [go_sem,zA,zB,zC,zD,zE,reduceCtorEq,↓reduceIte,zF,zG,zH,zI]
  refine ⟨fun h => Up.here ?_, fun h => ?_⟩
  ·subst hR
   refine ⟨rfl, ?_⟩
   rw [validT_eq, hsy, h]
   rfl
  have hr : 0 ≤ x.rule ∧ x.rule < g.rs.length := by
   rw [symF, if_neg h] at hsy
   split at hsy
   ·cases hsy
   ·omega
  have hk : x.rule.toNat < g.rs.length := by omega
  have hV : validT g x = validL g x.kids g.rs[x.rule.toNat].r := by
   rw [validT_eq, hsy]
   simp [h, List.getD, hk]
  obtain ⟨b, o, hB, A2, c2, hs2, hc2⟩ := hg.ru hk
  have hsh := hs2.short
  generalize g.rs[x.rule.toNat].r = rr at *
  refine s_idx hB (by omega) (by omega) ?_
  simp -implicitDefEqProofs only [go_sem,zA,zB,zC,zD,zE,reduceCtorEq,↓reduceIte,zF,zG,zH,zI]
  refine s_ld (j := 1) (hc2 _ (Mem.le.refl _)) (by simp) (by simp) ?_
  simp -implicitDefEqProofs only [go_sem,zA,zB,zC,zD,zE,reduceCtorEq,↓reduceIte,zF,zG,zH,zI]
  refine ⟨fun hne => Up.here ?_, fun heq => ?_⟩
  ·subst hR
   exact ⟨rfl, by rw [hV, validL_len (by omega)]⟩
  have hll : x.kids.length = rr.length := by omega
  refine s_loop (fun f vs Γ => Γ = [] ∧ ∃ k : Nat, vs = [.v true (.int .i64 k)] ∧ k + f = x.kids.length ∧ ∀ (i : Nat) (hi : i < x.kids.length) (hj : i < rr.length), i < k → (symF g x.kids[i]).2 = true ∧ (symF g x.kids[i]).1 = rr[i] ∧ validT g x.kids[i] = true) x.kids.length (Up.here ⟨rfl, 0, rfl, by omega, fun i _ _ h => by omega⟩) ?_
  rintro f vs Γ ⟨rfl, k, rfl, hkf, hall⟩
  simp -implicitDefEqProofs only [S140_1, go_sem,zA,zB,zC,zD,zE,reduceCtorEq,↓reduceIte,zF,zG,zH,zI]
  refine ⟨fun hlt => ?_, fun hge => ?_⟩
  ·have hki : k < x.kids.length := by omega
   have hkj : k < rr.length := by omega
   have hm := List.getElem_mem hki
   have hnk := numL_mem hm
   have hn2 := numT_eq x.kids[k]
   have hl2 := numL_len x.kids[k].kids
   obtain ⟨b5, o5, hA5, A6, c6, hs6, hc6⟩ := hx.tr hki
   obtain ⟨b7, o7, hA7, hc7⟩ := hs2.sy hkj
   refine s_idx hA5 (by omega) (by omega) ?_
   simp -implicitDefEqProofs only [go_sem,zA,zB,zC,zD,zE,reduceCtorEq,↓reduceIte,zF,zG,zH,zI]
   refine s_ld0 (hc6 _ (Mem.le.refl _)) (by simp) (by simp) ?_
   simp -implicitDefEqProofs only [go_sem,zA,zB,zC,zD,zE,reduceCtorEq,↓reduceIte,zF,zG,zH,zI]
   intro b8
   refine CallVC.read (tree_symbol hg x.kids[k] (by omega)) ?_
   rintro v Γ' ⟨rfl, rfl⟩
   cases hsk : symF g x.kids[k] with
   | mk y ok =>
   have hfail : ¬ (ok = true ∧ y = rr[k] ∧ validT g x.kids[k] = true) → validT g x = false := fun q => by
    cases hv : validL g x.kids rr with
    | false => rw [hV, hv]
    | true =>
     exfalso
     have := (validL_iff hll).1 hv k hki hkj
     rw [hsk] at this
     exact q this
   simp -implicitDefEqProofs only [sv, go_sem,zA,zB,zC,zD,zE,reduceCtorEq,↓reduceIte,zF,zG,zH,zI]
   cases ok with
   | false =>
    simp -implicitDefEqProofs only [go_sem,zA,zB,zC,zD,zE,reduceCtorEq,↓reduceIte,zF,zG,zH,zI]
    intro b9
    refine s_idxg (b := 0) (o := 0) (by simp) ?_
    simp -implicitDefEqProofs only [go_sem,zA,zB,zC,zD,zE,reduceCtorEq,↓reduceIte,zF,zG,zH,zI]
    refine s_ldg0 (cs := [.bool false, .int .i64 0]) (by simp) (by simp) (by simp) (by simp) ?_
    simp -implicitDefEqProofs only [go_sem,zA,zB,zC,zD,zE,reduceCtorEq,↓reduceIte,zF,zG,zH,zI]
    refine ⟨.bool false, fun h => absurd h (by simp), ?_⟩
    simp -implicitDefEqProofs only [go_sem,zA,zB,zC,zD,zE,reduceCtorEq,↓reduceIte,zF,zG,zH,zI]
    refine ⟨.bool false, ?_⟩
    simp -implicitDefEqProofs only [go_sem,zA,zB,zC,zD,zE,reduceCtorEq,↓reduceIte,zF,zG,zH,zI]
    refine Up.here ?_
    subst hR
    exact ⟨rfl, by rw [hfail (by simp)]⟩
   | true =>
    simp -implicitDefEqProofs only [go_sem,zA,zB,zC,zD,zE,reduceCtorEq,↓reduceIte,zF,zG,zH,zI]
    intro b9
    refine s_idx hA7 (by omega) (by omega) ?_
    simp -implicitDefEqProofs only [go_sem,zA,zB,zC,zD,zE,reduceCtorEq,↓reduceIte,zF,zG,zH,zI]
    refine s_ld0 (hc7 _ (Mem.le.refl _)) (by simp) (by simp) ?_
    simp -implicitDefEqProofs only [go_sem,zA,zB,zC,zD,zE,reduceCtorEq,↓reduceIte,zF,zG,zH,zI]
    refine s_q trivial (qr_neqsy y rr[k] _ _ _) ?_
    simp -implicitDefEqProofs only [go_sem,zA,zB,zC,zD,zE,reduceCtorEq,↓reduceIte,zF,zG,zH,zI]
    by_cases e : y = rr[k]
    ·refine ⟨fun _ => ⟨e, ?_⟩, fun h => by simp [e] at h⟩
     have e1 : decide (y = rr[k]) = true := decide_eq_true e
     simp -implicitDefEqProofs only [e1, go_sem,zA,zB,zC,zD,zE,reduceCtorEq,↓reduceIte,zF,zG,zH,zI]
     refine CallVC.read (ih _ hm hs6 (by omega)) ?_
     rintro v Γ' ⟨rfl, rfl⟩
     simp -implicitDefEqProofs only [go_sem,zA,zB,zC,zD,zE,reduceCtorEq,↓reduceIte,zF,zG,zH,zI]
     refine ⟨fun hv => Up.here ?_, fun hv => ?_⟩
     ·subst hR
      exact ⟨rfl, by rw [hfail (by simp [hv])]⟩
     ·simp (disch := omega) only [wrap_id]
      refine ⟨f - 1, by omega, Up.here ⟨rfl, k + 1, rfl, by omega, fun i hi hj hik => ?_⟩⟩
      by_cases ei : i = k
      ·subst ei
       rw [hsk]
       exact ⟨rfl, e, hv⟩
      ·exact hall i hi hj (by omega)
    ·refine ⟨fun h => absurd h e, fun _ => ⟨.bool false, ?_⟩⟩
     have e1 : decide (y = rr[k]) = false := decide_eq_false e
     simp -implicitDefEqProofs only [e1, go_sem,zA,zB,zC,zD,zE,reduceCtorEq,↓reduceIte,zF,zG,zH,zI]
     refine Up.here ?_
     subst hR
     exact ⟨rfl, by rw [hfail (by simp [e])]⟩
  ·have hk : k = x.kids.length := by omega
   refine Up.here ?_
   subst hR
   refine ⟨rfl, ?_⟩
   rw [hV, (validL_iff hll).2 fun i hi hj => hall i hi hj (by omega)]
/-- the first error of a tree -/
def tcF (g : Gr) (x : Tr) : Int := if ckF g ≠ 0 then ckF g else if 5000 < szT x then 2 else if validT g x then 0 else 3
theorem tree_checkB {Γr : Ctx} {g : Gr} {B : Option Addr} {d : Nat} (hg : SlOk (lk Γr) B d g.rs) (x : Tr) {A : Option Addr} {c : Nat} (hx : SlOk (lk Γr) A c x.kids) (hn : numT x ≤ 20000000000) (hs : szT x ≤ 5000 → numT x ≤ 1048576) :
  Ret Try.prog 69 [.agg #[.int .i64 g.ts, .int .i64 g.ns, .int .i64 g.st, .slice B g.rs.length d], .agg #[.int .i64 x.rule, .int .i64 x.term, .slice A x.kids.length c]] Γr [] (fun v Γ => Γ = [] ∧ v = .int .i64 (tcF g x)) := by
 generalize hR : (fun (v : Value) (Γ : Ctx) => Γ = [] ∧ _) = R
 refine ret_of_vc tr69 (Nat.le_of_ble_eq_true rfl) ?_
 simp -implicitDefEqProofs only [S69, S69_0, go_sem,zA,zB,zC,zD,zE,reduceCtorEq,↓reduceIte,zF,zG,zH,zI]
 intro b1 b2
 refine CallVC.read (gram_check hg) ?_
 rintro v Γ' ⟨rfl, rfl⟩
 simp -implicitDefEqProofs only [go_sem,zA,zB,zC,zD,zE,reduceCtorEq,↓reduceIte,zF,zG,zH,zI]
 refine ⟨fun h => Up.here ?_, fun h => ?_⟩
 ·subst hR
  exact ⟨rfl, by rw [tcF, if_pos h]⟩
 refine CallVC.read (tree_sizeB x hx hn) ?_
 rintro v Γ' ⟨rfl, rfl⟩
 simp -implicitDefEqProofs only [go_sem,zA,zB,zC,zD,zE,reduceCtorEq,↓reduceIte,zF,zG,zH,zI]
 refine ⟨fun h2 => Up.here ?_, fun h2 => ?_⟩
 ·subst hR
  exact ⟨rfl, by rw [tcF, if_neg (by simpa using h), if_pos (by omega)]⟩
 refine CallVC.read (tree_valid hg x hx (hs (by omega))) ?_
 rintro v Γ' ⟨rfl, rfl⟩
 simp -implicitDefEqProofs only [go_sem,zA,zB,zC,zD,zE,reduceCtorEq,↓reduceIte,zF,zG,zH,zI]
 refine ⟨fun h3 => Up.here ?_, fun h3 => Up.here ?_⟩
 ·subst hR
  exact ⟨rfl, by rw [tcF, if_neg (by simpa using h), if_neg (by omega), if_neg (by simp [h3])]⟩
 ·subst hR
  exact ⟨rfl, by rw [tcF, if_neg (by simpa using h), if_neg (by omega), if_pos h3]⟩
/- Trees of a grammar stand in the lists: the plain law; no condition. -/
mutual
def wdT : Tr → List Int
 | ⟨r, t, ks⟩ => if r = -1 then [t] else wdL ks
def wdL : List Tr → List Int
 | [] => []
 | k :: ks => wdT k ++ wdL ks
end
theorem wdT_eq (x : Tr) : wdT x = if x.rule = -1 then [x.term] else wdL x.kids := by
 cases x
 simp only [wdT, Tr.rule, Tr.term, Tr.kids]
 congr
theorem wdL_append (a b : List Tr) : wdL (a ++ b) = wdL a ++ wdL b := by
 induction a with
 | nil => simp [wdL]
 | cons k a ih => simp only [List.cons_append, wdL, ih, List.append_assoc]
theorem wdL_le {ks : List Tr} (h : ∀ k ∈ ks, (wdT k).length ≤ numT k) : (wdL ks).length ≤ numL ks := by
 induction ks with
 | nil => simp [wdL, numL]
 | cons k ks ih =>
  have := h k (by simp)
  have := ih fun x hx => h x (by simp [hx])
  simp only [wdL, numL, List.length_append]
  omega
theorem wdT_le (x : Tr) : (wdT x).length ≤ numT x := by
 refine Tr.ind (p := fun x => (wdT x).length ≤ numT x) (fun x ih => ?_) x
 rw [wdT_eq, numT_eq]
 split
 ·simp
 ·have := wdL_le ih
  omega
theorem rowL_mem {L : Int → Nat → List Tr} : ∀ {ks : List Tr} {l : List Sy}, ks.length = l.length → (∀ (i : Nat) k s, ks[i]? = some k → l[i]? = some s → k ∈ symL L s (wdT k).length) → ks ∈ rowL L l (wdL ks).length
 | [], [], _, _ => by simp [rowL, wdL]
 | [], s :: l, h, _ => by simp at h
 | k :: ks, [], h, _ => by simp at h
 | k :: ks, s :: l, h, hm => by
  have h1 := hm 0 k s rfl rfl
  have h2 := rowL_mem (L := L) (ks := ks) (l := l) (by simpa using h) (fun i k' s' q1 q2 => hm (i + 1) k' s' (by simpa using q1) (by simpa using q2))
  rw [rowL, wdL, List.length_append]
  refine List.mem_flatMap.2 ⟨(wdT k).length, List.mem_range.2 (by omega), List.mem_flatMap.2 ⟨k, h1, List.mem_map.2 ⟨ks, ?_, rfl⟩⟩⟩
  rw [show (wdT k).length + (wdL ks).length - (wdT k).length = (wdL ks).length by omega]
  exact h2
theorem valid_leaf {g : Gr} {x : Tr} (h : validT g x = true) (hr : x.rule = -1) : (symF g x).1 = ⟨true, x.term⟩ ∧ x = ⟨-1, x.term, []⟩ := by
 rw [validT_eq] at h
 simp only [Bool.and_eq_true] at h
 have h1 := h.1
 unfold symF at h1 ⊢
 rw [if_pos hr] at h1 ⊢
 simp only [decide_eq_true_eq] at h1
 refine ⟨rfl, Tr.ext hr rfl ?_⟩
 exact List.length_eq_zero_iff.1 h1.2.2
theorem valid_node {g : Gr} {x : Tr} (h : validT g x = true) (hr : x.rule ≠ -1) : ∃ (p : Nat) (hp : p < g.rs.length), x.rule = p ∧ x.term = 0 ∧ (symF g x).1 = ⟨false, g.rs[p].l⟩ ∧ validL g x.kids g.rs[p].r = true := by
 rw [validT_eq] at h
 simp only [Bool.and_eq_true] at h
 obtain ⟨h1, h2⟩ := h
 have h2 : validL g x.kids (g.rs.getD x.rule.toNat ⟨0, []⟩).r = true := by simpa [hr] using h2
 by_cases hb : x.rule < 0 ∨ (g.rs.length : Int) ≤ x.rule
 ·unfold symF at h1
  rw [if_neg hr, if_pos hb] at h1
  cases h1
 ·have hp : x.rule.toNat < g.rs.length := by omega
  have e : g.rs.getD x.rule.toNat ⟨0, []⟩ = g.rs[x.rule.toNat] := by simp [List.getD_eq_getElem?_getD, hp]
  rw [e] at h2
  refine ⟨x.rule.toNat, hp, by omega, ?_, ?_, h2⟩
  ·unfold symF at h1
   rw [if_neg hr, if_neg hb] at h1
   simpa using h1
  ·unfold symF
   rw [if_neg hr, if_neg hb, e]
theorem validL_all {g : Gr} {ks : List Tr} {l : List Sy} (h : validL g ks l = true) : ks.length = l.length ∧ ∀ (i : Nat) k s, ks[i]? = some k → l[i]? = some s → validT g k = true ∧ (symF g k).1 = s := by
 have hl : ks.length = l.length := Classical.byContradiction fun e => by
  rw [validL_len e] at h
  cases h
 refine ⟨hl, fun i k s h1 h2 => ?_⟩
 obtain ⟨q1, rfl⟩ := List.getElem?_eq_some_iff.1 h1
 obtain ⟨q2, rfl⟩ := List.getElem?_eq_some_iff.1 h2
 obtain ⟨_, w2, w3⟩ := (validL_iff hl).1 h i q1 q2
 exact ⟨w3, w2⟩
theorem rulL_mem {L : Int → Nat → List Tr} {a : Int} {k : Nat} : ∀ {rs : List Ru} {i p : Nat} {ks : List Tr} (hp : p < rs.length), rs[p].l = a → ks ∈ rowL L rs[p].r k → (⟨((i + p : Nat) : Int), 0, ks⟩ : Tr) ∈ rulL L a k i rs
 | [], i, p, ks, hp, _, _ => by simp at hp
 | r :: rs, i, 0, ks, hp, h1, h2 => by
  have h1 : r.l = a := h1
  rw [rulL, if_pos h1]
  exact List.mem_append.2 (.inl (List.mem_map.2 ⟨ks, h2, rfl⟩))
 | r :: rs, i, p + 1, ks, hp, h1, h2 => by
  rw [rulL]
  have := rulL_mem (L := L) (a := a) (k := k) (rs := rs) (i := i + 1) (p := p) (ks := ks) (by simpa using hp) (by simpa using h1) (by simpa using h2)
  rw [show i + 1 + p = i + (p + 1) by omega] at this
  exact List.mem_append.2 (.inr this)
theorem kids_level {g : Gr} : ∀ {ks : List Tr}, (∀ k ∈ ks, ∃ h, k ∈ symL (lstT g h) (symF g k).1 (wdT k).length) → ∃ h, ∀ k ∈ ks, k ∈ symL (lstT g h) (symF g k).1 (wdT k).length
 | [], _ => ⟨0, by simp⟩
 | x :: ks, hk => by
  obtain ⟨h1, q1⟩ := hk x (by simp)
  obtain ⟨h2, q2⟩ := kids_level (ks := ks) (fun k hk' => hk k (by simp [hk']))
  refine ⟨max h1 h2, fun k hm => ?_⟩
  rcases List.mem_cons.1 hm with e | e
  ·subst e
   exact (symL_sub (lstT_sub g (by omega)) _ _).subset q1
  ·exact (symL_sub (lstT_sub g (by omega)) _ _).subset (q2 k e)
theorem valid_at {g : Gr} (x : Tr) : validT g x = true → ∃ h, x ∈ symL (lstT g h) (symF g x).1 (wdT x).length := by
 refine Tr.ind (p := fun x => validT g x = true → ∃ h, x ∈ symL (lstT g h) (symF g x).1 (wdT x).length) (fun x ih hv => ?_) x
 by_cases hr : x.rule = -1
 ·obtain ⟨h1, h2⟩ := valid_leaf hv hr
  refine ⟨0, ?_⟩
  rw [h1, wdT_eq, if_pos hr]
  unfold symL
  rw [if_pos rfl, if_pos (show [x.term].length = 1 from rfl)]
  exact List.mem_singleton.2 h2
 ·obtain ⟨p, hp, e1, e2, e3, e4⟩ := valid_node hv hr
  obtain ⟨hl, hall⟩ := validL_all e4
  obtain ⟨H, hH⟩ := kids_level (g := g) (ks := x.kids) (fun k hk => by
   obtain ⟨i, hi⟩ := List.mem_iff_getElem?.1 hk
   have hil := (List.getElem?_eq_some_iff.1 hi).1
   exact ih k hk (hall i k _ hi (List.getElem?_eq_getElem (by omega))).1)
  refine ⟨H + 1, ?_⟩
  rw [e3, wdT_eq, if_neg hr]
  have hm := rowL_mem (L := lstT g H) hl (fun i k s q1 q2 => by
   rw [← (hall i k s q1 q2).2]
   exact hH k (List.mem_of_getElem? q1))
  have := rulL_mem (i := 0) hp rfl hm
  rw [Nat.zero_add] at this
  have ex : (⟨(p : Int), 0, x.kids⟩ : Tr) = x := Tr.ext e1.symm e2.symm rfl
  rw [ex] at this
  exact this
theorem valid_row {g : Gr} {ks : List Tr} {l : List Sy} (h : validL g ks l = true) : ∃ H, ks ∈ rowL (lstT g H) l (wdL ks).length := by
 obtain ⟨hl, hall⟩ := validL_all h
 obtain ⟨H, hH⟩ := kids_level (g := g) (ks := ks) (fun k hk => by
  obtain ⟨i, hi⟩ := List.mem_iff_getElem?.1 hk
  have hil := (List.getElem?_eq_some_iff.1 hi).1
  exact valid_at k (hall i k _ hi (List.getElem?_eq_getElem (by omega))).1)
 exact ⟨H, rowL_mem hl (fun i k s q1 q2 => by
  rw [← (hall i k s q1 q2).2]
  exact hH k (List.mem_of_getElem? q1))⟩
theorem valid_pos {g : Gr} (V : VG g) {n : Nat} {x : Tr} (h : validT g x = true) (hn : (wdT x).length ≤ n) : 0 < symT (cntT g (mostN g n)) (symF g x).1 (wdT x).length := by
 obtain ⟨H, hH⟩ := valid_at x h
 have hl := symL_len (lstT_len g H) (symF g x).1 (wdT x).length
 have hp : 0 < symT (cntT g H) (symF g x).1 (wdT x).length := by
  rw [← hl]
  exact List.length_pos_of_mem hH
 unfold symT at hp ⊢
 split
 ·rename_i e
  rw [if_pos e] at hp
  exact hp
 ·rename_i e
  rw [if_neg e] at hp
  exact cnt_pos V _ hn hp
theorem validL_pos {g : Gr} (V : VG g) {n : Nat} {ks : List Tr} {l : List Sy} (h : validL g ks l = true) (hn : (wdL ks).length ≤ n) : 0 < rowT (cntT g (mostN g n)) l (wdL ks).length := by
 obtain ⟨H, hH⟩ := valid_row h
 have hl := rowL_len (lstT_len g H) l (wdL ks).length
 exact row_up (fun a k hk hp => cnt_pos V _ hk hp) l _ hn (by rw [← hl]; exact List.length_pos_of_mem hH)
/- The text of parlance/tree.word as a statement; no condition. -/
def S166_1 : Stmt :=
 .seq
 (.region [oq 18 (.ibin .lss (.tmp 17) (.tmp 16))] [0,15,16,17,18])
 (.seq (.cond (.tmp 18) .skip (.exit 0))
 (.seq
 (.block 1
 (.seq
 (.region
 [oq 19 (.idx 3 (.tmp 15) (.tmp 17)),
 oq 20 (.load true 3 (.tmp 19)),
 .mk (some 6) none
 (.alloc true 106
 (.agg (Array.mk [.int .i64 0,.int .i64 0,.slice none 0 0]))),
 .mk none none (.store 3 (.tmp 6) (.tmp 20))]
 [0,6,15,16,17])
 (.region
 [oq 21 (.mv (.tmp 0)),
 oq 22 (.load true 3 (.tmp 6)),
 oq 23 (.call (.func 166) [.tmp 21,.tmp 22]),
 oq 0 (.mv (.tmp 23))]
 [0,15,16,17])))
 (.region
 [oq 24 (.ibin .add (.tmp 17) (.const (.int .i64 1))),
 oq 17 (.mv (.tmp 24))]
 [0,15,16,17])))
def S166_0 : Stmt :=
 .seq
 (.region
 [oq 3 (.box true 106 (.tmp 1)),
 oq 4 (.mv (.const (.slice none 0 0)))]
 [0,3])
 (.seq
 (.seq
 (.region
 [oq 7 (.load true 3 (.tmp 3)),
 oq 8 (.call (.func 139) [.tmp 7])]
 [0,3,8])
 (.cond (.tmp 8)
 (.seq
 (.region
 [oq 9 (.mv (.tmp 0)),oq 10 (.fld 1 (.tmp 3)),
 oq 11 (.load false 1 (.tmp 10)),
 oq 12 (.buildS 3 1 [.int .i64 0] [(0,1,.tmp 11)]),
 oq 13 (.append 29 3 1 8 (.int .i64 0) (.tmp 9) (.tmp 12)),
 oq 4 (.mv (.tmp 13))]
 [4])
 .ret)
 .skip))
 (.seq
 (.seq
 (.region
 [oq 14 (.fld 2 (.tmp 3)),
 oq 15 (.load false 1 (.tmp 14)),
 oq 16 (.len false (.tmp 15)),
 oq 17 (.mv (.const (.int .i64 0)))]
 [0,15,16,17])
 (.block 0 (.loop S166_1 [0,17] [15,16])))
 (.seq
 (.region
 [oq 25 (.mv (.tmp 0)),oq 4 (.mv (.tmp 25))] [4])
 .ret)))
def S166 : FnS := ⟨26,[(4,none)],S166_0⟩
theorem tr166 : trFn Try.prog 166 [3,6] [[0,3],[0,3,8],[4],[0,15,16,17],[0,17],[15,16],[0,15,16,17,18],[0,6,15,16,17],[0,15,16,17],[0,15,16,17],[4]] = some S166 := by kernel_rfl
/- The text of parlance/tree.Word as a statement; no condition. -/
def S100_0 : Stmt :=
 .seq
 (.region
 [oq 1 (.box true 106 (.tmp 0)),
 oq 2 (.mv (.const (.slice none 0 0)))]
 [1])
 (.seq
 (.region
 [oq 3 (.load true 3 (.tmp 1)),
 oq 4 (.call (.func 166) [.const (.slice none 0 0),.tmp 3]),
 oq 2 (.mv (.tmp 4))]
 [2])
 .ret)
def S100 : FnS := ⟨5,[(2,none)],S100_0⟩
theorem tr100 : trFn Try.prog 100 [1] [[1],[2]] = some S100 := by kernel_rfl
/- The words of trees: tree.word, tree.Word walked; no condition. -/
/-- an empty heap more is no harm -/
theorem Ret.emp {P : Program} {f : FuncId} {args : List Value} {Γr : Ctx} {R : Value → Ctx → Prop} (h : Ret P f args Γr [V.emp] R) : Ret P f args Γr [] R :=
 ⟨h.fn, fun w hs => (h.calls w ⟨fun g hg k o hk => by
  rcases List.mem_cons.1 hg with e | e
  ·subst e; cases hk
  ·exact hs.holds g e k o hk, List.pairwise_cons.2 ⟨fun x _ k => .inl rfl, hs.apart⟩⟩).mono fun e w' ⟨v, Γ', he, hR, hd⟩ => ⟨v, Γ', he, hR, ⟨hd.sat, fun g hg k hk => by
  rcases hd.own g hg k hk with q | ⟨x, hx, q⟩
  ·exact .inl q
  ·simp only [List.mem_singleton] at hx
   subst hx
   exact absurd rfl q, hd.os, hd.tape, hd.output, hd.size, fun k hk _ => hd.same k hk (fun x hx => by
   simp only [List.mem_singleton] at hx
   subst hx
   rfl)⟩⟩⟩
theorem tree_wd {Γr : Ctx} (x : Tr) : ∀ {A : Option Addr} {c : Nat}, SlOk (lk Γr) A c x.kids → numT x ≤ 20000000000 → ∀ {go : PH} {v : Value} {xs : List Int}, Bld go (lk []) 3 v xs → xs.length + numT x ≤ 40000000000 →
  Ret Try.prog 166 [v, .agg #[.int .i64 x.rule, .int .i64 x.term, .slice A x.kids.length c]] Γr [go] (fun v Γ => ∃ go', Γ = [go'] ∧ Bld go' (lk []) 3 v (xs ++ wdT x)) := by
 refine Tr.ind (p := fun x => ∀ {A : Option Addr} {c : Nat}, SlOk (lk Γr) A c x.kids → numT x ≤ 20000000000 → ∀ {go : PH} {v : Value} {xs : List Int}, Bld go (lk []) 3 v xs → xs.length + numT x ≤ 40000000000 →
  Ret Try.prog 166 [v, .agg #[.int .i64 x.rule, .int .i64 x.term, .slice A x.kids.length c]] Γr [go] (fun v Γ => ∃ go', Γ = [go'] ∧ Bld go' (lk []) 3 v (xs ++ wdT x))) (fun x ih A c hx hn go v xs hB hb => ?_) x
 generalize hR : (fun (v : Value) (Γ : Ctx) => ∃ go', _) = R
 obtain ⟨A0, c0, rfl⟩ := hB.val
 refine ret_of_vc tr166 (Nat.le_of_ble_eq_true rfl) ?_
 have hn1 := numT_eq x
 have hlen := numL_len x.kids
 simp -implicitDefEqProofs only [S166, S166_0, go_sem,zA,zB,zC,zD,zE,reduceCtorEq,↓reduceIte,zF,zG,zH,zI]
 intro b1
 refine CallVC.read (tree_leaf _ _ _ _ _) ?_
 rintro v Γ' ⟨rfl, rfl⟩
 simp -implicitDefEqProofs only [go_sem,zA,zB,zC,zD,zE,reduceCtorEq,↓reduceIte,zF,zG,zH,zI]
 refine ⟨fun h => ?_, fun h => ?_⟩
 ·intro bk
  refine s_app1S (α := Int) (ix := 1) x.term rfl hB cells_one rfl (by omega) (by unfold maxLen; omega) ?_
  intro v' go' hB' _
  simp -implicitDefEqProofs only [go_sem,zA,zB,zC,zD,zE,reduceCtorEq,↓reduceIte,zF,zG,zH,zI]
  refine Up.skip (Up.here ?_)
  subst hR
  rw [wdT_eq, if_pos h]
  exact ⟨go', rfl, hB'⟩
 ·refine s_loop (fun f vs Γ => ∃ (go : PH) (v : Value) (k : Nat), vs = [.v true v, .v true (.int .i64 k)] ∧ Γ = [go] ∧ k + f = x.kids.length ∧ Bld go (lk []) 3 v (xs ++ wdL (x.kids.take k))) x.kids.length
   (Up.here ⟨go, _, 0, rfl, rfl, by omega, by simpa [wdL] using hB⟩) ?_
  clear hB
  rintro f vs Γ ⟨go, v, k, rfl, rfl, hkf, hB⟩
  obtain ⟨A0, c0, rfl⟩ := hB.val
  simp -implicitDefEqProofs only [S166_1, go_sem,zA,zB,zC,zD,zE,reduceCtorEq,↓reduceIte,zF,zG,zH,zI]
  refine ⟨fun hlt => ?_, fun hge => ?_⟩
  ·have hk : k < x.kids.length := by omega
   obtain ⟨b, o, hA, A', c', hs', hc⟩ := hx.tr hk
   have hm := List.getElem_mem hk
   have hst : wdL (x.kids.take (k + 1)) = wdL (x.kids.take k) ++ wdT x.kids[k] := by
    rw [List.take_succ_eq_append_getElem hk, wdL_append]
    simp [wdL]
   have hnk := numL_mem hm
   have hle : numL (x.kids.take k) + numT x.kids[k] ≤ numL x.kids := by
    have h1 : numL (x.kids.take (k + 1)) = numL (x.kids.take k) + numT x.kids[k] := by
     rw [List.take_succ_eq_append_getElem hk, numL_append]
     simp [numL]
    have h2 := numL_append (x.kids.take (k + 1)) (x.kids.drop (k + 1))
    rw [List.take_append_drop] at h2
    omega
   have hs1 : (wdL (x.kids.take k)).length ≤ numL (x.kids.take k) := wdL_le fun y _ => wdT_le y
   refine s_idx hA (by omega) (by omega) ?_
   simp -implicitDefEqProofs only [go_sem,zA,zB,zC,zD,zE,reduceCtorEq,↓reduceIte,zF,zG,zH,zI]
   refine s_ld0 (hc _ (lk_r [go] _)) (by simp) (by simp) ?_
   simp -implicitDefEqProofs only [go_sem,zA,zB,zC,zD,zE,reduceCtorEq,↓reduceIte,zF,zG,zH,zI]
   intro b5
   refine CallVC.perm (Γm := [go]) (Γf := []) (ih _ hm hs' (by omega) hB (by rw [List.length_append]; omega)) (List.Perm.refl _) (List.Sublist.refl _) ?_
   rintro v Γ' ⟨go', rfl, hB'⟩
   rw [List.append_assoc, ← hst] at hB'
   obtain ⟨A0, c0, rfl⟩ := hB'.val
   simp -implicitDefEqProofs only [go_sem,zA,zB,zC,zD,zE,reduceCtorEq,↓reduceIte,zF,zG,zH,zI]
   simp (disch := omega) only [wrap_id]
   exact ⟨f - 1, by omega, Up.here ⟨go', _, k + 1, rfl, rfl, by omega, hB'⟩⟩
  ·have hk : k = x.kids.length := by omega
   have he : wdL (x.kids.take k) = wdL x.kids := by rw [hk, List.take_length]
   refine Up.here ?_
   subst hR
   rw [wdT_eq, if_neg h, ← he]
   exact ⟨go, rfl, hB⟩
theorem tree_wordB {Γr : Ctx} (x : Tr) {A : Option Addr} {c : Nat} (hx : SlOk (lk Γr) A c x.kids) (hn : numT x ≤ 20000000000) :
  Ret Try.prog 100 [.agg #[.int .i64 x.rule, .int .i64 x.term, .slice A x.kids.length c]] Γr [] (fun v Γ => ∃ go, Γ = [go] ∧ Bld go (lk []) 3 v (wdT x)) := by
 generalize hR : (fun (v : Value) (Γ : Ctx) => ∃ go, _) = R
 refine ret_of_vc tr100 (Nat.le_of_ble_eq_true rfl) ?_
 simp -implicitDefEqProofs only [S100, S100_0, go_sem,zA,zB,zC,zD,zE,reduceCtorEq,↓reduceIte,zF,zG,zH,zI]
 intro b1
 refine CallVC.read (Ret.emp (tree_wd (Γr := [] ++ Γr) x hx hn (Bld.nil V.emp (lk []) 3) (by simp; omega))) ?_
 rintro v Γ' ⟨go, rfl, hB⟩
 rw [List.nil_append] at hB
 obtain ⟨A0, c0, rfl⟩ := hB.val
 simp -implicitDefEqProofs only [go_sem,zA,zB,zC,zD,zE,reduceCtorEq,↓reduceIte,zF,zG,zH,zI]
 refine Up.here ?_
 subst hR
 exact ⟨go, rfl, hB⟩
theorem tree_word {Γr : Ctx} (x : Tr) {A : Option Addr} {c : Nat} (hx : SlOk (lk Γr) A c x.kids) (hn : numT x ≤ 1048576) :
  Ret Try.prog 100 [.agg #[.int .i64 x.rule, .int .i64 x.term, .slice A x.kids.length c]] Γr [] (fun v Γ => ∃ go, Γ = [go] ∧ Bld go (lk []) 3 v (wdT x)) := tree_wordB x hx (by omega)
/- The text of (*parlance/rank.book).of as a statement; no condition. -/
def S165_1 : Stmt :=
 .block 1
 (.seq
 (.region
 [oq 35 (.mv (.tmp 33)),
 oq 36 (.idx 2 (.tmp 31) (.tmp 33)),
 oq 37 (.load true 2 (.tmp 36)),
 .mk (some 10) none
 (.alloc true 37 (.agg (Array.mk [.int .i64 0,.slice none 0 0]))),
 oq 9 (.mv (.tmp 35)),
 .mk none none (.store 2 (.tmp 10) (.tmp 37))]
 [0,2,4,7,8,9,10,31,32,33])
 (.seq
 (.region
 [oq 38 (.fld 0 (.tmp 10)),
 oq 39 (.load false 1 (.tmp 38)),oq 40 (.mv (.tmp 8)),
 oq 41 (.ibin .eql (.tmp 39) (.tmp 40))]
 [0,2,4,7,8,9,31,32,33,41])
 (.cond (.tmp 41)
 (.region
 [oq 42 (.mv (.tmp 7)),oq 43 (.mv (.tmp 0)),
 oq 44 (.mv (.tmp 9)),oq 45 (.mv (.tmp 2)),
 .mk (some 46) none
 (.call (.func 197)
 [.tmp 43,.tmp 44,.const (.int .i64 0),.tmp 45]),
 oq 47 (.ibin .add (.tmp 42) (.tmp 46)),
 oq 7 (.mv (.tmp 47))]
 [0,2,4,7,8,31,32,33])
 .skip)))
def S165_2 : Stmt :=
 .region
 [oq 48 (.ibin .add (.tmp 33) (.const (.int .i64 1))),
 oq 33 (.mv (.tmp 48))]
 [0,2,4,7,8,31,32,33]
def S165_3 : Stmt :=
 .seq
 (.region [oq 34 (.ibin .lss (.tmp 33) (.tmp 32))]
 [0,2,4,7,8,31,32,33,34])
 (.seq (.cond (.tmp 34) .skip (.exit 0)) (.join S165_1 S165_2 [7] [0,2,4,8,31,32,33]))
def S165_0 : Stmt :=
 .seq
 (.region
 [oq 4 (.box true 106 (.tmp 1)),
 oq 6 (.mv (.const (.int .i64 0)))]
 [0,2,4])
 (.seq
 (.seq
 (.region
 [oq 11 (.fld 0 (.tmp 4)),
 oq 12 (.load false 1 (.tmp 11)),
 oq 13 (.ibin .lss (.tmp 12) (.const (.int .i64 0)))]
 [0,2,4,13])
 (.cond (.tmp 13)
 (.seq (.region [oq 6 (.mv (.const (.int .i64 0)))] [6])
 .ret)
 .skip))
 (.seq (.region [oq 7 (.mv (.const (.int .i64 0)))] [0,2,4,7])
 (.seq
 (.quiet
 [oq 14 (.mv (.tmp 0)),oq 15 (.nilCheck (.tmp 14)),
 oq 16 (.fld 0 (.tmp 15)),oq 17 (.fld 3 (.tmp 16)),
 oq 18 (.load false 1 (.tmp 17)),
 oq 19 (.fld 0 (.tmp 4)),
 oq 20 (.load false 1 (.tmp 19)),
 oq 21 (.idx 2 (.tmp 18) (.tmp 20)),
 oq 22 (.fld 0 (.tmp 21)),
 oq 23 (.load false 1 (.tmp 22)),
 oq 8 (.mv (.tmp 23))]
 [0,2,4,7,8])
 (.seq
 (.seq
 (.quiet
 [oq 24 (.mv (.tmp 0)),
 oq 25 (.nilCheck (.tmp 24)),
 oq 26 (.fld 0 (.tmp 25)),
 oq 27 (.fld 3 (.tmp 26)),
 oq 28 (.load false 1 (.tmp 27)),
 oq 29 (.fld 0 (.tmp 4)),
 oq 30 (.load false 1 (.tmp 29)),
 oq 31 (.slc 2 (.tmp 28) none (some (.tmp 30)) none),
 oq 32 (.len false (.tmp 31)),
 oq 33 (.mv (.const (.int .i64 0)))]
 [0,2,4,7,8,31,32,33])
 (.block 0 (.loop S165_3 [7,33] [0,2,4,8,31,32])))
 (.seq
 (.region
 [oq 49 (.mv (.tmp 7)),oq 50 (.mv (.tmp 0)),
 oq 51 (.fld 0 (.tmp 4)),
 oq 52 (.load false 1 (.tmp 51)),
 oq 53 (.fld 2 (.tmp 4)),
 oq 54 (.load false 1 (.tmp 53)),
 oq 55 (.mv (.tmp 2)),
 .mk (some 56) none
 (.call (.func 198) [.tmp 50,.tmp 52,.tmp 54,.tmp 55]),
 oq 57 (.ibin .add (.tmp 49) (.tmp 56)),
 oq 6 (.mv (.tmp 57))]
 [6])
 .ret)))))
def S165 : FnS := ⟨58,[(6,none)],S165_0⟩
theorem tr165 : trFn Try.prog 165 [4,10] [[0,2,4],[0,2,4,13],[6],[0,2,4,7],[0,2,4,7,8],[0,2,4,7,8,31,32,33],[7,33],[0,2,4,8,31,32],[0,2,4,7,8,31,32,33,34],[7],[0,2,4,8,31,32,33],[0,2,4,7,8,9,10,31,32,33],[0,2,4,7,8,9,31,32,33,41],[0,2,4,7,8,31,32,33],[0,2,4,7,8,31,32,33],[6]] = some S165 := by kernel_rfl
/- The text of (*parlance/rank.book).ofKids as a statement; no condition. -/
def S198_1 : Stmt :=
 .seq
 (.region [oq 36 (.ibin .lss (.tmp 35) (.tmp 34))]
 [0,1,2,3,9,10,11,34,35,36])
 (.seq (.cond (.tmp 36) .skip (.exit 0))
 (.seq
 (.block 1
 (.seq
 (.region
 [oq 37 (.mv (.tmp 35)),oq 12 (.mv (.tmp 37))]
 [0,1,2,3,9,10,11,12,34,35])
 (.region
 [oq 38 (.mv (.tmp 11)),oq 39 (.mv (.tmp 0)),
 oq 40 (.mv (.tmp 1)),oq 41 (.mv (.tmp 9)),
 oq 42 (.mv (.tmp 12)),oq 43 (.mv (.tmp 3)),
 .mk (some 44) none
 (.call (.func 211)
 [.tmp 39,.tmp 40,.tmp 41,.tmp 42,.tmp 43]),
 oq 45 (.ibin .add (.tmp 38) (.tmp 44)),
 oq 11 (.mv (.tmp 45))]
 [0,1,2,3,9,10,11,34,35])))
 (.region
 [oq 46 (.ibin .add (.tmp 35) (.const (.int .i64 1))),
 oq 35 (.mv (.tmp 46))]
 [0,1,2,3,9,10,11,34,35])))
def S198_0 : Stmt :=
 .seq (.region [oq 8 (.mv (.const (.int .i64 0)))] [0,1,2,3])
 (.seq
 (.seq
 (.region
 [oq 13 (.mv (.tmp 2)),oq 14 (.len false (.tmp 13)),
 oq 15 (.ibin .eql (.tmp 14) (.const (.int .i64 0)))]
 [0,1,2,3,15])
 (.cond (.tmp 15)
 (.seq (.region [oq 8 (.mv (.const (.int .i64 0)))] [8])
 .ret)
 .skip))
 (.seq
 (.region
 [oq 16 (.mv (.tmp 0)),oq 17 (.nilCheck (.tmp 16)),
 oq 18 (.fld 0 (.tmp 17)),oq 19 (.fld 3 (.tmp 18)),
 oq 20 (.load false 1 (.tmp 19)),oq 21 (.mv (.tmp 1)),
 oq 22 (.idx 2 (.tmp 20) (.tmp 21)),
 oq 23 (.fld 1 (.tmp 22)),
 oq 24 (.load false 1 (.tmp 23)),
 oq 25 (.len false (.tmp 24)),oq 26 (.mv (.tmp 2)),
 oq 27 (.len false (.tmp 26)),
 oq 28 (.ibin .sub (.tmp 25) (.tmp 27)),
 oq 9 (.mv (.tmp 28))]
 [0,1,2,3,9])
 (.seq
 (.region
 [oq 29 (.mv (.tmp 2)),
 oq 30 (.idx 3 (.tmp 29) (.const (.int .i64 0))),
 oq 31 (.load true 3 (.tmp 30)),
 oq 32 (.call (.func 100) [.tmp 31]),
 oq 33 (.len false (.tmp 32)),oq 10 (.mv (.tmp 33))]
 [0,1,2,3,9,10])
 (.seq
 (.region [oq 11 (.mv (.const (.int .i64 0)))]
 [0,1,2,3,9,10,11])
 (.seq
 (.seq
 (.region
 [oq 34 (.mv (.tmp 10)),
 oq 35 (.mv (.const (.int .i64 0)))]
 [0,1,2,3,9,10,11,34,35])
 (.block 0 (.loop S198_1 [11,35] [0,1,2,3,9,10,34])))
 (.seq
 (.drawn
 [(false,oq 47 (.mv (.tmp 11))),
 (false,oq 48 (.mv (.tmp 0))),
 (false,oq 49 (.mv (.tmp 2))),
 (false,
 oq 50 (.idx 3 (.tmp 49) (.const (.int .i64 0)))),
 (false,oq 51 (.load true 3 (.tmp 50))),
 (false,oq 52 (.mv (.tmp 10))),
 (false,oq 54 (.mv (.tmp 0))),
 (false,oq 55 (.mv (.tmp 1))),
 (false,oq 56 (.mv (.tmp 9))),
 (false,
 .mk (some 57) none
 (.ibin .add (.tmp 56) (.const (.int .i64 1)))),
 (false,oq 58 (.mv (.tmp 3))),
 (false,oq 59 (.mv (.tmp 10))),
 (false,oq 60 (.ibin .sub (.tmp 58) (.tmp 59))),
 (false,oq 64 (.mv (.tmp 0))),
 (false,oq 65 (.mv (.tmp 1))),
 (false,oq 66 (.mv (.tmp 2))),
 (false,
 .mk (some 67) none
 (.slc 3 (.tmp 66) (some (.const (.int .i64 1))) none none)),
 (false,oq 68 (.mv (.tmp 3))),
 (false,oq 69 (.mv (.tmp 10))),
 (false,oq 70 (.ibin .sub (.tmp 68) (.tmp 69))),
 (false,
 .mk (some 53) none
 (.call (.func 165) [.tmp 48,.tmp 51,.tmp 52])),
 (false,
 .mk (some 61) none
 (.call (.func 197) [.tmp 54,.tmp 55,.tmp 57,.tmp 60])),
 (false,oq 62 (.ibin .mul (.tmp 53) (.tmp 61))),
 (false,oq 63 (.ibin .add (.tmp 47) (.tmp 62))),
 (false,
 .mk (some 71) none
 (.call (.func 198) [.tmp 64,.tmp 65,.tmp 67,.tmp 70])),
 (false,oq 72 (.ibin .add (.tmp 63) (.tmp 71))),
 (false,oq 8 (.mv (.tmp 72)))]
 [8])
 .ret))))))
def S198 : FnS := ⟨73,[(8,none)],S198_0⟩
theorem tr198 : trFn Try.prog 198 [] [[0,1,2,3],[0,1,2,3,15],[8],[0,1,2,3,9],[0,1,2,3,9,10],[0,1,2,3,9,10,11],[0,1,2,3,9,10,11,34,35],[11,35],[0,1,2,3,9,10,34],[0,1,2,3,9,10,11,34,35,36],[0,1,2,3,9,10,11,12,34,35],[0,1,2,3,9,10,11,34,35],[0,1,2,3,9,10,11,34,35],[8],[0,1,2,3,4,5,7,8,9,10,11,12,13,17,18,19,20,21,22,23,6,14,15,16,24,25,26],[],[],[],[],[2],[2,3],[],[1,2,3,4,5],[],[],[],[9],[],[],[11,12],[1,2,3,4,5,6,7,8,9,10,11,12,13],[1,2,3,4,5,6,7,8,9,10,11,12,13,14],[0,1,2,3,4,5,6,7,8,9,10,11,12,13,14,15],[],[],[],[19],[],[],[21,22],[1,2,3,4,5,6,7,8,9,10,11,12,13,14,17,18,19,20,21,22,23],[0,1,2,3,4,5,6,7,8,9,10,11,12,13,14,15,16,17,18,19,20,21,22,23,24],[0,1,2,3,4,5,6,7,8,9,10,11,12,13,14,15,16,17,18,19,20,21,22,23,24,25]] = some S198 := by kernel_rfl
/- rank: of, ofKids walked; no condition. -/
theorem sumR_take (T : Int → Nat → Nat) (a : Int) (k : Nat) : ∀ (rs : List Ru) (j : Nat), sumR T a k (rs.take j) ≤ sumR T a k rs
 | [], j => by simp
 | r :: rs, 0 => by simp [sumR]
 | r :: rs, j + 1 => by
  rw [List.take_succ_cons, sumR, sumR]
  have := sumR_take T a k rs j
  omega
def OfQ (g : Gr) (n bm : Nat) (P : Nat → Prop) (v : Value) (Γ : Ctx) : Prop := ∃ gm lst i, Γ = [gm] ∧ v = .int .i64 ((i : Nat) : Int) ∧ MapM gm bm intsV (Value.int .i64) (okInts 3) lst ∧ KnW g n lst ∧ P i
def OfC (g : Gr) (n b : Nat) (R : Option Addr) (cR : Nat) (An : Option Addr) (cn bm : Nat) (x : Tr) : Prop := validT g x = true → (wdT x).length ≤ n → ((symF g x).1.t = false → InS g g.st n (symF g x).1.n (wdT x).length) → numT x ≤ 1048576 →
 ∀ {Γr : Ctx} {gm : PH} {lst : List (List Int × Int)} {A : Option Addr} {c : Nat}, BookK (lk Γr) b g n R cR An cn bm → SlOk (lk Γr) A c x.kids → MapM gm bm intsV (Value.int .i64) (okInts 3) lst → KnW g n lst →
 Ret Try.prog 165 [.pointer (some ⟨b, 0, none⟩), .agg #[.int .i64 x.rule, .int .i64 x.term, .slice A x.kids.length c], .int .i64 ((wdT x).length : Int)] Γr [gm] (OfQ g n bm (fun i => (symL (lstT g (mostN g n)) (symF g x).1 (wdT x).length)[i]? = some x))
theorem ofKids_of {g : Gr} {n : Nat} (F : Fine g n) (hn : n ≤ 24) {b : Nat} {R : Option Addr} {cR : Nat} {An : Option Addr} {cn bm i : Nat} (hi : i < g.rs.length) : ∀ (kids : List Tr), (∀ x ∈ kids, OfC g n b R cR An cn bm x) → ∀ (p : Nat), p + kids.length = g.rs[i].r.length → validL g kids (g.rs[i].r.drop p) = true → (wdL kids).length ≤ n → InR g g.st n (g.rs[i].r.drop p) (wdL kids).length → numL kids ≤ 1048576 →
  ∀ {Γr : Ctx} {gm : PH} {lst : List (List Int × Int)} {A : Option Addr} {c : Nat}, BookK (lk Γr) b g n R cR An cn bm → SlOk (lk Γr) A c kids → MapM gm bm intsV (Value.int .i64) (okInts 3) lst → KnW g n lst →
  Ret Try.prog 198 [.pointer (some ⟨b, 0, none⟩), .int .i64 (i : Int), .slice A kids.length c, .int .i64 ((wdL kids).length : Int)] Γr [gm] (OfQ g n bm (fun x => (rowL (lstT g (mostN g n)) (g.rs[i].r.drop p) (wdL kids).length)[x]? = some kids)) := by
 intro kids
 induction kids with
 | nil =>
  intro _ p hp _ _ _ _ Γr gm lst A c hB hA hM hK
  generalize hRR : OfQ g n bm _ = R'
  refine ret_of_vc tr198 (Nat.le_of_ble_eq_true rfl) ?_
  simp -implicitDefEqProofs only [S198, S198_0, go_sem,zA,zB,zC,zD,zE,reduceCtorEq,↓reduceIte,zF,zG,zH,zI]
  refine Up.here ?_
  subst hRR
  refine ⟨gm, lst, 0, rfl, rfl, hM, hK, ?_⟩
  have : p = g.rs[i].r.length := by simpa using hp
  rw [this, List.drop_length]
  rfl
 | cons x ks ih =>
  intro hof p hp hv hw hI hnum Γr gm lst A c hB hA hM hK
  have hpl : p < g.rs[i].r.length := by simp at hp; omega
  have hdrop : g.rs[i].r.drop p = g.rs[i].r[p] :: g.rs[i].r.drop (p + 1) := List.drop_eq_getElem_cons hpl
  have V := F.V
  have hpart := fun {Γr : Ctx} {gm : PH} {lst : List (List Int × Int)} (j k : Nat) (hj : j ≤ k) (hk : k ≤ n) (hI : InR g g.st n (g.rs[i].r.drop p) k) => @part_of g n F hn b R cR An cn bm i p hi hpl (ways_all F hn hi (g.rs[i].r.length - (p + 1)) (p + 1) (by omega)) j k hj hk hI Γr gm lst
  have hways := @ways_all g n F hn b R cR An cn bm i hi (g.rs[i].r.length - (p + 1)) (p + 1) (by omega)
  have ih := ih (fun y hy => hof y (by simp [hy])) (p + 1) (by simp at hp ⊢; omega)
  have hr4 := V.right _ (List.getElem_mem hi)
  have hvl := V.len
  have hsh := hB.rs.short
  obtain ⟨b0, o0, h0, A1, c1, hr1, hcr⟩ := hB.rs.ru hi
  rw [hdrop] at hv hI
  simp only [validL, Bool.and_eq_true, decide_eq_true_eq] at hv
  obtain ⟨⟨⟨_, hsx⟩, hvx⟩, hvk⟩ := hv
  have hwl : (wdL (x :: ks)).length = (wdT x).length + (wdL ks).length := by simp [wdL]
  have hnl : numL (x :: ks) = numT x + numL ks := rfl
  rw [hwl] at hw hI
  have hposk := validL_pos V hvk (n := n) (by omega)
  have hposx := valid_pos V hvx (n := n) (by omega)
  rw [hsx] at hposx
  have hIr := hI.rest (M := mostN g n) (j := (wdT x).length) (by omega) hposx
  rw [show (wdT x).length + (wdL ks).length - (wdT x).length = (wdL ks).length by omega] at hIr
  have hIs := fun hs => hI.sym (M := mostN g n) (j := (wdT x).length) (by omega) hs (by rw [show (wdT x).length + (wdL ks).length - (wdT x).length = (wdL ks).length by omega]; exact hposk)
  have ih := fun {Γr gm lst A c} => @ih hvk (by omega) hIr (by omega) Γr gm lst A c
  have hofx := fun {Γr gm lst A c} => @hof x (by simp) hvx (by omega) (by rw [hsx]; exact hIs) (by omega) Γr gm lst A c
  rw [hsx] at hofx
  have hfew := hI.few F (mostN g n)
  have hgetT : ∀ q y, (symL (lstT g (mostN g n)) g.rs[i].r[p] (wdT x).length)[q]? = some x → (rowL (lstT g (mostN g n)) (g.rs[i].r.drop (p + 1)) (wdL ks).length)[y]? = some ks →
    (rowL (lstT g (mostN g n)) (g.rs[i].r[p] :: g.rs[i].r.drop (p + 1)) ((wdT x).length + (wdL ks).length))[sumN (fun j => symT (cntT g (mostN g n)) g.rs[i].r[p] j * rowT (cntT g (mostN g n)) (g.rs[i].r.drop (p + 1)) ((wdT x).length + (wdL ks).length - j)) (wdT x).length + (q * rowT (cntT g (mostN g n)) (g.rs[i].r.drop (p + 1)) (wdL ks).length + y)]? = some (x :: ks) := fun q y q1 q2 => by
   have w1 := (List.getElem?_eq_some_iff.1 q1).1
   have w2 := (List.getElem?_eq_some_iff.1 q2).1
   rw [symL_len (lstT_len g (mostN g n))] at w1
   rw [rowL_len (lstT_len g (mostN g n))] at w2
   have e : (wdT x).length + (wdL ks).length - (wdT x).length = (wdL ks).length := by omega
   have := rowL_get (lstT_len g (mostN g n)) (s := g.rs[i].r[p]) (l := g.rs[i].r.drop (p + 1)) (k := (wdT x).length + (wdL ks).length) (j := (wdT x).length) (by omega) w1 (by rw [e]; exact w2) q1 (by rw [e]; exact q2)
   rw [e] at this
   exact this
  have hlenT := rowL_len (lstT_len g (mostN g n)) (g.rs[i].r[p] :: g.rs[i].r.drop (p + 1)) ((wdT x).length + (wdL ks).length)
  rw [hdrop, hwl]
  rw [hdrop] at hpart
  have hi0 := hI
  generalize hRR : OfQ g n bm _ = R'
  refine ret_of_vc tr198 (Nat.le_of_ble_eq_true rfl) ?_
  simp -implicitDefEqProofs only [S198, S198_0, go_sem,zA,zB,zC,zD,zE,reduceCtorEq,↓reduceIte,zF,zG,zH,zI]
  have hlk : (x :: ks).length = ks.length + 1 := rfl
  have hpks : p + (ks.length + 1) = g.rs[i].r.length := hp
  have hpart := fun {Γr : Ctx} {gm : PH} {lst : List (List Int × Int)} (j : Nat) (hj : j ≤ (wdT x).length + (wdL ks).length) => @hpart Γr gm lst j _ hj hw hI
  obtain ⟨b3, o3, h3, A3, c3, hk3, hc3⟩ := hA.tr (i := 0) (by simp)
  simp only [List.getElem_cons_zero] at hk3 hc3
  have hdr := hA.drop (l := 1) (by simp)
  simp only [List.drop_succ_cons, List.drop_zero] at hdr
  have hcap := hA.cap
  have hword := fun Γ => tree_word (Γr := Γ) x (A := A3) (c := c3)
  generalize hmL : (wdT x).length = m at *
  generalize (wdL ks).length = K at *
  generalize hT : cntT g (mostN g n) = T at *
  generalize hlL : g.rs[i].r.drop (p + 1) = l at *
  generalize hsS : g.rs[i].r[p] = s at *
  refine ⟨fun h => absurd h (by omega), fun _ => ?_⟩
  refine s_ld (j := 3) (cells_lk (lk_r [gm] _ _ _ hB.out)) (by simp [bkC]) (by simp) ?_
  simp -implicitDefEqProofs only [bkC, go_sem,zA,zB,zC,zD,zE,reduceCtorEq,↓reduceIte,zF,zG,zH,zI]
  refine s_idx h0 (by omega) (by omega) ?_
  simp -implicitDefEqProofs only [go_sem,zA,zB,zC,zD,zE,reduceCtorEq,↓reduceIte,zF,zG,zH,zI]
  refine s_ld (j := 1) (by simpa using hcr _ (lk_r [gm] _)) (by simp) (by simp) ?_
  simp -implicitDefEqProofs only [go_sem,zA,zB,zC,zD,zE,reduceCtorEq,↓reduceIte,zF,zG,zH,zI]
  have hw1 : IntKind.i64.wrap ((g.rs[i].r.length : Int) - ((ks.length + 1 : Nat) : Int)) = (p : Int) := by rw [wrap_id (by omega) (by omega)]; omega
  rw [hw1]
  refine s_idx h3 (by simp) (by simp) ?_
  simp -implicitDefEqProofs only [go_sem,zA,zB,zC,zD,zE,reduceCtorEq,↓reduceIte,zF,zG,zH,zI]
  refine s_ld0 (by simpa using hc3 _ (lk_r [gm] _)) (by simp) (by simp) ?_
  simp -implicitDefEqProofs only [go_sem,zA,zB,zC,zD,zE,reduceCtorEq,↓reduceIte,zF,zG,zH,zI]
  refine CallVC.read (hword _ (hk3.mono (lk_r [gm] _)) (by omega)) ?_
  rintro v Γ' ⟨gw, rfl, hBw⟩
  obtain ⟨Aw, cw, rfl⟩ := hBw.val
  rw [hmL]
  simp -implicitDefEqProofs only [go_sem,zA,zB,zC,zD,zE,reduceCtorEq,↓reduceIte,zF,zG,zH,zI]
  have hM0 := hM
  have hK0 := hK
  clear hM hK hBw
  refine s_loop (fun f vs Γ => ∃ (gm : PH) (lst : List (List Int × Int)) (j : Nat), vs = [.v true (.int .i64 ((sumN (fun j => symT T s j * rowT T l (m + K - j)) j : Nat) : Int)), .v true (.int .i64 (j : Int))] ∧ Γ = [gm] ∧ j + f = m ∧ MapM gm bm intsV (Value.int .i64) (okInts 3) lst ∧ KnW g n lst) m
   (Up.skip (Up.here ⟨gm, lst, 0, rfl, rfl, by omega, hM0, hK0⟩)) ?_
  clear hM0 hK0
  rintro f vs Γ ⟨gm, lst, j, rfl, rfl, hjf, hM, hK⟩
  simp -implicitDefEqProofs only [S198_1, go_sem,zA,zB,zC,zD,zE,reduceCtorEq,↓reduceIte,zF,zG,zH,zI]
  have hrow : rowT T (s :: l) (m + K) = sumN (fun j => symT T s j * rowT T l (m + K - j)) (m + K + 1) := rfl
  refine ⟨fun hlt => ?_, fun hge => ?_⟩
  ·have hmo := sumN_mono (fun j => symT T s j * rowT T l (m + K - j)) (show j + 1 ≤ m + K + 1 by omega)
   rw [← hrow, sumN] at hmo
   have hw2 : IntKind.i64.wrap (((sumN (fun j => symT T s j * rowT T l (m + K - j)) j : Nat) : Int) + ((symT T s j * rowT T l (m + K - j) : Nat) : Int)) = ((sumN (fun j => symT T s j * rowT T l (m + K - j)) (j + 1) : Nat) : Int) := by
    rw [← Int.natCast_add, wrap_id (by omega) (by omega)]
    rfl
   refine CallVC.perm (Γm := [gm]) (Γf := []) (hpart j (by omega) (Γr := Γr) hB hM hK) (List.Perm.refl _) (List.Sublist.refl _) ?_
   rintro v Γ' ⟨gm', lst', rfl, rfl, hM', hK'⟩
   simp -implicitDefEqProofs only [hw2, go_sem,zA,zB,zC,zD,zE,reduceCtorEq,↓reduceIte,zF,zG,zH,zI]
   simp (disch := omega) only [wrap_id]
   exact ⟨f - 1, by omega, Up.here ⟨gm', lst', j + 1, rfl, rfl, by omega, hM', hK'⟩⟩
  ·have hje : j = m := by omega
   subst hje
   have hw3 : IntKind.i64.wrap ((p : Int) + 1) = ((p + 1 : Nat) : Int) := by rw [wrap_id (by omega) (by omega)]; rfl
   have hw4 : IntKind.i64.wrap (((j + K : Nat) : Int) - (j : Int)) = (K : Int) := by rw [wrap_id (by omega) (by omega)]; omega
   refine s_idx h3 (by simp) (by simp) ?_
   simp -implicitDefEqProofs only [go_sem,zA,zB,zC,zD,zE,reduceCtorEq,↓reduceIte,zF,zG,zH,zI]
   refine s_ld0 (by simpa using hc3 _ (lk_r [gm] _)) (by simp) (by simp) ?_
   simp -implicitDefEqProofs only [hw3, hw4, go_sem,zA,zB,zC,zD,zE,reduceCtorEq,↓reduceIte,zF,zG,zH,zI]
   refine s_lo 1 (by simp -implicitDefEqProofs only [go_sem,zA,zB,zC,zD,zE,reduceCtorEq,↓reduceIte,zF,zG,zH,zI]; exact ⟨_, rfl⟩) (by omega) (by omega) ?_
   intro A' hA'
   rw [show Rep.sz Tr = 3 from rfl, ← hA'] at hdr
   rw [show ks.length + 1 - 1 = ks.length by omega]
   simp -implicitDefEqProofs only [hw4, go_sem,zA,zB,zC,zD,zE,reduceCtorEq,↓reduceIte,zF,zG,zH,zI]
   refine CallVC.perm (Γm := [gm]) (Γf := []) (hofx (Γr := Γr) hB hk3 hM hK) (List.Perm.refl _) (List.Sublist.refl _) ?_
   rintro v Γ' ⟨gm, lst, q, rfl, rfl, hM, hK, hq⟩
   simp -implicitDefEqProofs only [go_sem,zA,zB,zC,zD,zE,reduceCtorEq,↓reduceIte,zF,zG,zH,zI]
   refine CallVC.perm (Γm := [gm]) (Γf := []) (hways (k := K) (by omega) hIr (Γr := Γr) hB hM hK) (List.Perm.refl _) (List.Sublist.refl _) ?_
   rintro v Γ' ⟨gm, lst, rfl, rfl, hM, hK⟩
   rw [hT]
   simp -implicitDefEqProofs only [go_sem,zA,zB,zC,zD,zE,reduceCtorEq,↓reduceIte,zF,zG,zH,zI]
   refine CallVC.perm (Γm := [gm]) (Γf := []) (ih (Γr := Γr) hB hdr hM hK) (List.Perm.refl _) (List.Sublist.refl _) ?_
   rintro v Γ' ⟨gm, lst, y, rfl, rfl, hM, hK, hy⟩
   have htot := hgetT q y hq hy
   have hlt := (List.getElem?_eq_some_iff.1 htot).1
   rw [hlenT] at hlt
   have hw5 : IntKind.i64.wrap ((q : Int) * ((rowT T l K : Nat) : Int)) = ((q * rowT T l K : Nat) : Int) := by rw [← Int.natCast_mul, wrap_id (by omega) (by omega)]
   have hw6 : IntKind.i64.wrap (((sumN (fun j_1 => symT T s j_1 * rowT T l (j + K - j_1)) j : Nat) : Int) + ((q * rowT T l K : Nat) : Int)) = ((sumN (fun j_1 => symT T s j_1 * rowT T l (j + K - j_1)) j + q * rowT T l K : Nat) : Int) := by rw [← Int.natCast_add, wrap_id (by omega) (by omega)]
   have hw7 : IntKind.i64.wrap (((sumN (fun j_1 => symT T s j_1 * rowT T l (j + K - j_1)) j + q * rowT T l K : Nat) : Int) + (y : Int)) = ((sumN (fun j_1 => symT T s j_1 * rowT T l (j + K - j_1)) j + (q * rowT T l K + y) : Nat) : Int) := by rw [← Int.natCast_add, wrap_id (by omega) (by omega), Nat.add_assoc]
   simp -implicitDefEqProofs only [hw5, hw6, hw7, go_sem,zA,zB,zC,zD,zE,reduceCtorEq,↓reduceIte,zF,zG,zH,zI]
   refine Up.here ?_
   subst hRR
   exact ⟨gm, lst, _, rfl, rfl, hM, hK, htot⟩
theorem book_of {g : Gr} {n : Nat} (F : Fine g n) (hn : n ≤ 24) {b : Nat} {R : Option Addr} {cR : Nat} {An : Option Addr} {cn bm : Nat} (x : Tr) : OfC g n b R cR An cn bm x := by
 refine Tr.ind (p := fun x => OfC g n b R cR An cn bm x) (fun x ihk hv hw hI hnum Γr gm lst A c hB hA hM hK => ?_) x
 generalize hRR : OfQ g n bm _ = R'
 refine ret_of_vc tr165 (Nat.le_of_ble_eq_true rfl) ?_
 by_cases hr : x.rule = -1
 ·obtain ⟨h1, h2⟩ := valid_leaf hv hr
  simp -implicitDefEqProofs only [S165, S165_0, go_sem,zA,zB,zC,zD,zE,reduceCtorEq,↓reduceIte,zF,zG,zH,zI]
  intro bx
  refine ⟨fun _ => Up.here ?_, fun h => absurd (by omega) h⟩
  subst hRR
  refine ⟨gm, lst, 0, rfl, rfl, hM, hK, ?_⟩
  rw [h1, wdT_eq, if_pos hr]
  unfold symL
  rw [if_pos rfl, if_pos (show [x.term].length = 1 from rfl)]
  exact congrArg some h2.symm
 ·obtain ⟨p, hp, hxr, hxt, hsf, hvl⟩ := valid_node hv hr
  have V := F.V
  have hvlen := V.len
  have hr4 := V.right _ (List.getElem_mem hp)
  have hsh := hB.rs.short
  have hwx : wdT x = wdL x.kids := by rw [wdT_eq, if_neg hr]
  have hnx := numT_eq x
  have hI := hI (by rw [hsf])
  rw [hsf] at hI hRR
  have hI : InS g g.st n g.rs[p].l (wdT x).length := hI
  have hfin := hI.fin F hw
  have hfew := hI.few F (mostN g n + 1)
  have hcap := hB.rs.cap
  obtain ⟨b0, o0, h0, A1, c1, hr1, hcr⟩ := hB.rs.ru hp
  simp -implicitDefEqProofs only [S165, S165_0, go_sem,zA,zB,zC,zD,zE,reduceCtorEq,↓reduceIte,zF,zG,zH,zI]
  rw [hxr]
  intro bx
  refine ⟨fun h => absurd h (by omega), fun _ => ?_⟩
  have hlst := lstT_eq (g := g) (show mostN g n ≤ mostN g n + 1 by omega) (hfin (mostN g n + 1) (by omega)).symm
  have hrul := fun (y : Nat) (h : (rowL (lstT g (mostN g n)) g.rs[p].r (wdL x.kids).length)[y]? = some x.kids) => rulL_get (L := lstT g (mostN g n)) (T := cntT g (mostN g n)) (lstT_len g (mostN g n)) (a := g.rs[p].l) (k := (wdL x.kids).length) (rs := g.rs) (i := 0) (p := p) (y := y) (ks := x.kids) hp rfl h
  have hsl : symL (lstT g (mostN g n)) ⟨false, g.rs[p].l⟩ (wdT x).length = lstT g (mostN g n) g.rs[p].l (wdT x).length := rfl
  rw [hsl, hlst, hwx] at hRR
  have hlenx := lstT_len g (mostN g n + 1) g.rs[p].l (wdL x.kids).length
  have hKI := hI.rule (List.getElem_mem hp) rfl
  have hways := fun (k : Nat) (hk : k < g.rs.length) => @ways_all g n F hn b R cR An cn bm k hk g.rs[k].r.length 0 (by omega)
  rw [hwx] at hI hw hfew hKI
  rw [hwx]
  have hofk := fun {Γr gm lst A c} => @ofKids_of g n F hn b R cR An cn bm p hp x.kids (fun y hy => ihk y hy) 0 (by have := (validL_all hvl).1; omega) (by rw [List.drop_zero]; exact hvl) hw (by rw [List.drop_zero]; exact hKI) (by omega) Γr gm lst A c
  rw [List.drop_zero] at hofk
  generalize (wdL x.kids).length = K at *
  generalize haA : g.rs[p].l = a at *
  have hcnt : cntT g (mostN g n + 1) a K = sumR (cntT g (mostN g n)) a K g.rs := rfl
  rw [hcnt] at hfew hlenx
  generalize hT : cntT g (mostN g n) = T at *
  refine s_ld (j := 3) (cells_lk (lk_r [gm] _ _ _ hB.out)) (by simp [bkC]) (by simp) ?_
  simp -implicitDefEqProofs only [bkC, go_sem,zA,zB,zC,zD,zE,reduceCtorEq,↓reduceIte,zF,zG,zH,zI]
  refine s_idx h0 (by omega) (by omega) ?_
  simp -implicitDefEqProofs only [go_sem,zA,zB,zC,zD,zE,reduceCtorEq,↓reduceIte,zF,zG,zH,zI]
  refine s_ld0 (by simpa using hcr _ (lk_r [gm] _)) (by simp) (by simp) ?_
  simp -implicitDefEqProofs only [go_sem,zA,zB,zC,zD,zE,reduceCtorEq,↓reduceIte,zF,zG,zH,zI]
  refine s_ld (j := 3) (cells_lk (lk_r [gm] _ _ _ hB.out)) (by simp [bkC]) (by simp) ?_
  simp -implicitDefEqProofs only [bkC, go_sem,zA,zB,zC,zD,zE,reduceCtorEq,↓reduceIte,zF,zG,zH,zI]
  refine s_hi p (by simp -implicitDefEqProofs only [go_sem,zA,zB,zC,zD,zE,reduceCtorEq,↓reduceIte,zF,zG,zH,zI]; exact ⟨_, rfl⟩) (by omega) ?_
  simp -implicitDefEqProofs only [go_sem,zA,zB,zC,zD,zE,reduceCtorEq,↓reduceIte,zF,zG,zH,zI]
  have hM0 := hM
  have hK0 := hK
  clear hM hK
  refine s_loop (fun f vs Γ => ∃ (gm : PH) (lst : List (List Int × Int)) (k : Nat), vs = [.v true (.int .i64 ((sumR T a K (g.rs.take k) : Nat) : Int)), .v true (.int .i64 (k : Int))] ∧ Γ = [gm] ∧ k + f = p ∧ MapM gm bm intsV (Value.int .i64) (okInts 3) lst ∧ KnW g n lst) p
   (Up.here ⟨gm, lst, 0, by rw [List.take_zero]; rfl, rfl, by omega, hM0, hK0⟩) ?_
  clear hM0 hK0
  rintro f vs Γ ⟨gm, lst, k, rfl, rfl, hkf, hM, hK⟩
  simp -implicitDefEqProofs only [S165_3, go_sem,zA,zB,zC,zD,zE,reduceCtorEq,↓reduceIte,zF,zG,zH,zI]
  refine ⟨fun hlt => ?_, fun hge => ?_⟩
  ·have hk : k < g.rs.length := by omega
   have hmo := sumR_take T a K g.rs (k + 1)
   have htk : g.rs.take (k + 1) = g.rs.take k ++ [g.rs[k]] := List.take_succ_eq_append_getElem hk
   have hsn := sumR_snoc T a K g.rs[k] (g.rs.take k)
   rw [← htk] at hsn
   obtain ⟨b4, o4, h4, A4, c4, hr4', hc4⟩ := hB.rs.ru hk
   refine s_join (fun vs Γ => ∃ (gm : PH) (lst : List (List Int × Int)), vs = [.v true (.int .i64 ((sumR T a K (g.rs.take (k + 1)) : Nat) : Int))] ∧ Γ = [gm] ∧ MapM gm bm intsV (Value.int .i64) (okInts 3) lst ∧ KnW g n lst) ?_ ?_
   ·simp -implicitDefEqProofs only [S165_1, go_sem,zA,zB,zC,zD,zE,reduceCtorEq,↓reduceIte,zF,zG,zH,zI]
    refine s_idx h4 (by omega) (by omega) ?_
    simp -implicitDefEqProofs only [go_sem,zA,zB,zC,zD,zE,reduceCtorEq,↓reduceIte,zF,zG,zH,zI]
    refine s_ld0 (by simpa using hc4 _ (lk_r [gm] _)) (by simp) (by simp) ?_
    simp -implicitDefEqProofs only [go_sem,zA,zB,zC,zD,zE,reduceCtorEq,↓reduceIte,zF,zG,zH,zI]
    refine ⟨fun heq => ?_, fun hne => ?_⟩
    ·rw [if_pos heq] at hsn
     have hwk := @hways k hk K (by omega) (by rw [List.drop_zero]; exact hI.rule (List.getElem_mem hk) heq) Γr gm lst hB hM hK
     rw [List.drop_zero, hT] at hwk
     refine CallVC.perm (Γm := [gm]) (Γf := []) hwk (List.Perm.refl _) (List.Sublist.refl _) ?_
     rintro v Γ' ⟨gm', lst', rfl, rfl, hM', hK'⟩
     have hw2 : IntKind.i64.wrap (((sumR T a K (g.rs.take k) : Nat) : Int) + ((rowT T g.rs[k].r K : Nat) : Int)) = ((sumR T a K (g.rs.take (k + 1)) : Nat) : Int) := by
      rw [← Int.natCast_add, wrap_id (by omega) (by omega), hsn]
     simp -implicitDefEqProofs only [hw2, go_sem,zA,zB,zC,zD,zE,reduceCtorEq,↓reduceIte,zF,zG,zH,zI]
     exact Up.here ⟨gm', lst', by simp, hM', hK'⟩
    ·rw [if_neg hne, Nat.add_zero] at hsn
     rw [hsn]
     exact Up.here ⟨gm, lst, rfl, rfl, hM, hK⟩
   ·rintro vs Γ' ⟨gm, lst, rfl, rfl, hM, hK⟩
    simp -implicitDefEqProofs only [S165_2, go_sem,zA,zB,zC,zD,zE,reduceCtorEq,↓reduceIte,zF,zG,zH,zI]
    simp (disch := omega) only [wrap_id]
    exact ⟨f - 1, by omega, Up.here ⟨gm, lst, k + 1, rfl, rfl, by omega, hM, hK⟩⟩
  ·have hkp : k = p := by omega
   subst hkp
   refine CallVC.perm (Γm := [gm]) (Γf := []) (hofk (Γr := Γr) hB hA hM hK) (List.Perm.refl _) (List.Sublist.refl _) ?_
   rintro v Γ' ⟨gm', lst', y, rfl, rfl, hM', hK', hy⟩
   have htot := hrul y hy
   have ex : (⟨((0 + k : Nat) : Int), 0, x.kids⟩ : Tr) = x := Tr.ext (by rw [Nat.zero_add]; exact hxr.symm) hxt.symm rfl
   rw [ex] at htot
   have hlt := (List.getElem?_eq_some_iff.1 htot).1
   have hlx : (rulL (lstT g (mostN g n)) a K 0 g.rs).length = sumR T a K g.rs := hlenx
   rw [hlx] at hlt
   have hw2 : IntKind.i64.wrap (((sumR T a K (g.rs.take k) : Nat) : Int) + (y : Int)) = ((sumR T a K (g.rs.take k) + y : Nat) : Int) := by rw [← Int.natCast_add, wrap_id (by omega) (by omega)]
   simp -implicitDefEqProofs only [hw2, go_sem,zA,zB,zC,zD,zE,reduceCtorEq,↓reduceIte,zF,zG,zH,zI]
   refine Up.here ?_
   subst hRR
   exact ⟨gm', lst', _, rfl, rfl, hM', hK', htot⟩
/- The text of parlance/rank.open as a statement; no condition. -/
def S164_0 : Stmt :=
 .seq
 (.region
 [oq 2 (.box true 57 (.tmp 0)),
 oq 4 (.mv (.const (.pointer none))),
 oq 5 (.mv (.const (.int .i64 0))),
 oq 6 (.mv (.const (.int .i64 0)))]
 [1,2])
 (.seq
 (.region
 [oq 11 (.load true 4 (.tmp 2)),oq 12 (.mv (.tmp 1)),
 oq 13 (.call (.func 79) [.tmp 11,.tmp 12]),
 oq 10 (.mv (.tmp 13)),oq 14 (.extract 0 (.tmp 10)),
 oq 15 (.extract 1 (.tmp 10)),oq 7 (.mv (.tmp 14)),
 oq 8 (.mv (.tmp 15))]
 [1,2,7,8])
 (.seq
 (.seq
 (.region
 [oq 16 (.mv (.tmp 8)),
 oq 17 (.ibin .neq (.tmp 16) (.const (.int .i64 0)))]
 [1,2,7,8,17])
 (.cond (.tmp 17)
 (.seq
 (.region
 [oq 18 (.mv (.tmp 8)),
 oq 4 (.mv (.const (.pointer none))),
 oq 5 (.mv (.const (.int .i64 0))),
 oq 6 (.mv (.tmp 18))]
 [4,5,6])
 .ret)
 .skip))
 (.seq
 (.region
 [oq 19 (.mv (.tmp 7)),oq 20 (.fld 2 (.tmp 2)),
 oq 21 (.load false 1 (.tmp 20)),
 oq 22 (.idx 1 (.tmp 19) (.tmp 21)),
 oq 23 (.load false 1 (.tmp 22)),
 oq 24 (.mv (.tmp 1)),
 oq 25 (.idx 1 (.tmp 23) (.tmp 24)),
 oq 26 (.load false 1 (.tmp 25)),
 oq 9 (.mv (.tmp 26))]
 [2,7,9])
 (.seq (.region [oq 27 (.mv (.tmp 9))] [2,7,9,27])
 (.block 0
 (.seq
 (.region
 [.mk (some 35) none
 (.ibin .eql (.tmp 27) (.const (.int .i64 (-1)))),
 oq 34 (.mv (.tmp 35))]
 [2,7,9,27,34])
 (.cond (.tmp 34)
 (.seq
 (.region
 [oq 4 (.mv (.const (.pointer none))),
 oq 5 (.mv (.const (.int .i64 0))),
 oq 6 (.mv (.const (.int .i64 9)))]
 [4,5,6])
 .ret)
 (.seq
 (.region
 [.mk (some 37) none
 (.ibin .eql (.tmp 27) (.const (.int .i64 1000000000))),
 oq 36 (.mv (.tmp 37))]
 [2,7,9,36])
 (.cond (.tmp 36)
 (.seq
 (.region
 [oq 4 (.mv (.const (.pointer none))),
 oq 5 (.mv (.const (.int .i64 0))),
 oq 6 (.mv (.const (.int .i64 2)))]
 [4,5,6])
 .ret)
 (.seq
 (.region
 [oq 28 (.load true 4 (.tmp 2)),
 oq 29 (.mv (.tmp 7)),
 oq 30 (.n (Qk.mkmap 266) []),
 .mk (some 31) none
 (.build 268
 [.int .i64 0,.int .i64 0,.int .i64 0,
 .slice none 0 0,.slice none 0 0,.map none]
 [(0,4,.tmp 28),(4,1,.tmp 29),(5,1,.tmp 30)]),
 oq 32 (.box false 268 (.tmp 31)),
 oq 33 (.mv (.tmp 9)),
 oq 4 (.mv (.tmp 32)),
 oq 5 (.mv (.tmp 33)),
 oq 6 (.mv (.const (.int .i64 0)))]
 [4,5,6])
 .ret))))))))))
def S164 : FnS := ⟨38,[(4,none),(5,none),(6,none)],S164_0⟩
theorem tr164 : trFn Try.prog 164 [2] [[1,2],[1,2,7,8],[1,2,7,8,17],[4,5,6],[2,7,9],[2,7,9,27],[2,7,9,27,34],[4,5,6],[2,7,9,36],[4,5,6],[4,5,6]] = some S164 := by kernel_rfl
/- The text of parlance/rank.Count as a statement; no condition. -/
def S98_0 : Stmt :=
 .seq
 (.region
 [oq 2 (.box true 57 (.tmp 0)),
 oq 4 (.mv (.const (.int .i64 0))),
 oq 5 (.mv (.const (.int .i64 0)))]
 [1,2])
 (.seq
 (.region
 [oq 10 (.load true 4 (.tmp 2)),oq 11 (.mv (.tmp 1)),
 oq 12 (.call (.func 164) [.tmp 10,.tmp 11]),
 oq 9 (.mv (.tmp 12)),oq 13 (.extract 0 (.tmp 9)),
 oq 14 (.extract 1 (.tmp 9)),
 oq 15 (.extract 2 (.tmp 9)),oq 6 (.mv (.tmp 13)),
 oq 7 (.mv (.tmp 14)),oq 8 (.mv (.tmp 15))]
 [7,8])
 (.seq
 (.region
 [oq 16 (.mv (.tmp 7)),oq 17 (.mv (.tmp 8)),
 oq 4 (.mv (.tmp 16)),oq 5 (.mv (.tmp 17))]
 [4,5])
 .ret))
def S98 : FnS := ⟨18,[(4,none),(5,none)],S98_0⟩
theorem tr98 : trFn Try.prog 98 [2] [[1,2],[7,8],[4,5]] = some S98 := by kernel_rfl
/- The text of parlance/rank.Of as a statement; no condition. -/
def S99_0 : Stmt :=
 .seq
 (.region
 [oq 2 (.box true 57 (.tmp 0)),
 oq 3 (.box true 106 (.tmp 1)),
 oq 4 (.mv (.const (.int .i64 0))),
 oq 5 (.mv (.const (.int .i64 0))),
 oq 6 (.mv (.const (.int .i64 0)))]
 [2,3])
 (.seq
 (.seq
 (.region
 [oq 12 (.load true 4 (.tmp 2)),
 oq 13 (.load true 3 (.tmp 3)),
 oq 14 (.call (.func 69) [.tmp 12,.tmp 13]),
 oq 7 (.mv (.tmp 14))]
 [2,3,7])
 (.seq
 (.region
 [oq 15 (.mv (.tmp 7)),
 oq 16 (.ibin .neq (.tmp 15) (.const (.int .i64 0)))]
 [2,3,7,16])
 (.cond (.tmp 16)
 (.seq
 (.region
 [oq 17 (.mv (.tmp 7)),
 oq 4 (.mv (.const (.int .i64 0))),
 oq 5 (.mv (.const (.int .i64 0))),
 oq 6 (.mv (.tmp 17))]
 [4,5,6])
 .ret)
 .skip)))
 (.seq
 (.seq
 (.quiet
 [oq 18 (.fld 0 (.tmp 3)),
 oq 19 (.load false 1 (.tmp 18)),
 oq 20 (.ibin .lss (.tmp 19) (.const (.int .i64 0))),
 oq 21 (.mv (.tmp 20)),
 .mk (some 22) (some (21,false)) (.fld 3 (.tmp 2)),
 .mk (some 23) (some (21,false)) (.load false 1 (.tmp 22)),
 .mk (some 24) (some (21,false)) (.fld 0 (.tmp 3)),
 .mk (some 25) (some (21,false)) (.load false 1 (.tmp 24)),
 .mk (some 26) (some (21,false)) (.idx 2 (.tmp 23) (.tmp 25)),
 .mk (some 27) (some (21,false)) (.fld 0 (.tmp 26)),
 .mk (some 28) (some (21,false)) (.load false 1 (.tmp 27)),
 .mk (some 29) (some (21,false)) (.fld 2 (.tmp 2)),
 .mk (some 30) (some (21,false)) (.load false 1 (.tmp 29)),
 .mk (some 31) (some (21,false)) (.ibin .neq (.tmp 28) (.tmp 30)),
 oq 32 (.pick (.tmp 21) (.const (.bool true)) (.tmp 31))]
 [2,3,32])
 (.cond (.tmp 32)
 (.seq
 (.region
 [oq 4 (.mv (.const (.int .i64 0))),
 oq 5 (.mv (.const (.int .i64 0))),
 oq 6 (.mv (.const (.int .i64 3)))]
 [4,5,6])
 .ret)
 .skip))
 (.seq
 (.region
 [oq 33 (.load true 3 (.tmp 3)),
 oq 34 (.call (.func 100) [.tmp 33]),
 oq 35 (.len false (.tmp 34)),oq 8 (.mv (.tmp 35))]
 [2,3,8])
 (.seq
 (.region
 [oq 37 (.load true 4 (.tmp 2)),
 oq 38 (.mv (.tmp 8)),
 oq 39 (.call (.func 164) [.tmp 37,.tmp 38]),
 oq 36 (.mv (.tmp 39)),
 oq 40 (.extract 0 (.tmp 36)),
 oq 41 (.extract 1 (.tmp 36)),
 oq 42 (.extract 2 (.tmp 36)),
 oq 9 (.mv (.tmp 40)),oq 10 (.mv (.tmp 41)),
 oq 11 (.mv (.tmp 42))]
 [3,8,9,11])
 (.seq
 (.seq
 (.region
 [oq 43 (.mv (.tmp 11)),
 .mk (some 44) none
 (.ibin .neq (.tmp 43) (.const (.int .i64 0)))]
 [3,8,9,11,44])
 (.cond (.tmp 44)
 (.seq
 (.region
 [oq 45 (.mv (.tmp 11)),
 oq 4 (.mv (.const (.int .i64 0))),
 oq 5 (.mv (.const (.int .i64 0))),
 oq 6 (.mv (.tmp 45))]
 [4,5,6])
 .ret)
 .skip))
 (.seq
 (.region
 [oq 46 (.mv (.tmp 8)),oq 47 (.mv (.tmp 9)),
 oq 48 (.load true 3 (.tmp 3)),
 oq 49 (.mv (.tmp 8)),
 .mk (some 50) none
 (.call (.func 165) [.tmp 47,.tmp 48,.tmp 49]),
 oq 4 (.mv (.tmp 46)),oq 5 (.mv (.tmp 50)),
 oq 6 (.mv (.const (.int .i64 0)))]
 [4,5,6])
 .ret))))))
def S99 : FnS := ⟨51,[(4,none),(5,none),(6,none)],S99_0⟩
theorem tr99 : trFn Try.prog 99 [2,3] [[2,3],[2,3,7],[2,3,7,16],[4,5,6],[2,3,32],[4,5,6],[2,3,8],[3,8,9,11],[3,8,9,11,44],[4,5,6],[4,5,6]] = some S99 := by kernel_rfl
/- rank: open, Count, Of walked; no condition. -/
def opE (g : Gr) (n : Int) : Int := if cenE g n ≠ 0 then cenE g n else if cenF g n.toNat g.st.toNat n.toNat = -1 then 9 else if cenF g n.toNat g.st.toNat n.toNat = 1000000000 then 2 else 0
/-- a book that was opened -/
def OpenR (g : Gr) (n : Int) (R : Option Addr) (cR : Nat) (Γr : Ctx) (v : Value) (Γ : Ctx) : Prop := (opE g n ≠ 0 ∧ Γ = [] ∧ v = .tuple #[.pointer none, .int .i64 0, .int .i64 (opE g n)]) ∨
 (opE g n = 0 ∧ ∃ (m : Nat) (gb gm go : PH) (b : Nat) (An : Option Addr) (cn bm : Nat), n = m ∧ m ≤ 24 ∧ Fine g m ∧ Γ = [gb, gm, go] ∧ v = .tuple #[.pointer (some ⟨b, 0, none⟩), .int .i64 ((cntT g (mostN g m) g.st m : Nat) : Int), .int .i64 0] ∧
   BookK (lk ([gb, go] ++ Γr)) b g m R cR An cn bm ∧ MapM gm bm intsV (Value.int .i64) (okInts 3) ([] : List (List Int × Int)))
theorem rank_open {Γr : Ctx} {g : Gr} {R : Option Addr} {cR : Nat} (hx : SlOk (lk Γr) R cR g.rs) {n : Int} (hn : -9223372036854775808 ≤ n ∧ n ≤ 9223372036854775807) :
  Ret Try.prog 164 [.agg #[.int .i64 g.ts, .int .i64 g.ns, .int .i64 g.st, .slice R g.rs.length cR], .int .i64 n] Γr [] (OpenR g n R cR Γr) := by
 generalize hR : OpenR g n R cR Γr = R'
 refine ret_of_vc tr164 (Nat.le_of_ble_eq_true rfl) ?_
 simp -implicitDefEqProofs only [S164, S164_0, go_sem,zA,zB,zC,zD,zE,reduceCtorEq,↓reduceIte,zF,zG,zH,zI]
 intro bg
 refine CallVC.read (Γ := []) (census_trees (Γr := [] ++ Γr) hx hn) ?_
 rintro v Γ' (⟨hne, rfl, rfl⟩ | ⟨h0, go, A, c, rfl, rfl, hS⟩)
 ·simp -implicitDefEqProofs only [go_sem,zA,zB,zC,zD,zE,reduceCtorEq,↓reduceIte,zF,zG,zH,zI]
  refine ⟨fun _ => Up.here ?_, fun h => absurd h hne⟩
  subst hR
  have : opE g n = cenE g n := if_pos hne
  exact .inl ⟨by rw [this]; exact hne, rfl, by rw [this]⟩
 ·have hck : ckF g = 0 := by
   unfold cenE at h0
   split at h0
   ·rename_i h; exact absurd h0 h
   ·rename_i h; exact Classical.not_not.1 h
  have hnb : ¬ (n < 0 ∨ 24 < n) := fun h => by
   unfold cenE at h0
   rw [if_neg (by omega), if_pos h] at h0
   omega
  have V := ckF_ok hck
  have hst := V.st
  have hns := V.ns
  obtain ⟨m, rfl⟩ : ∃ m : Nat, n = m := ⟨n.toNat, by omega⟩
  rw [Int.toNat_natCast] at hS
  obtain ⟨s, hs⟩ : ∃ s : Nat, g.st = s := ⟨g.st.toNat, by omega⟩
  have hcl : (cenRows g m g.ns.toNat).length = g.ns.toNat := by simp [cenRows]
  obtain ⟨b1, o1, h1, A1, c1, hr1, hc1⟩ := hS.list (i := s) (by omega)
  have e1 : (cenRows g m g.ns.toNat)[s]'(by omega) = cenRow g m s (m + 1) := by simp [cenRows]
  rw [e1] at hr1 hc1
  have hrl : (cenRow g m s (m + 1)).length = m + 1 := by simp [cenRow]
  rw [hrl] at hc1
  obtain ⟨b2, o2, h2, hc2⟩ := hr1.int (i := m) (by omega)
  have e2 : (cenRow g m s (m + 1))[m]'(by omega) = cenF g m s m := by simp [cenRow]
  rw [e2] at hc2
  have hop : opE g (m : Int) = if cenF g m s m = -1 then 9 else if cenF g m s m = 1000000000 then 2 else 0 := by
   unfold opE
   rw [if_neg (by omega), Int.toNat_natCast, show g.st.toNat = s by omega]
  have hcl2 : g.ns.toNat = (cenRows g m g.ns.toNat).length := hcl.symm
  simp -implicitDefEqProofs only [go_sem,zA,zB,zC,zD,zE,reduceCtorEq,↓reduceIte,zF,zG,zH,zI]
  rw [hs]
  refine s_idx h1 (by omega) (by omega) ?_
  simp -implicitDefEqProofs only [go_sem,zA,zB,zC,zD,zE,reduceCtorEq,↓reduceIte,zF,zG,zH,zI]
  refine s_ld0 (hc1 _ (lk_l [go] _)) (by simp) (by simp) ?_
  simp -implicitDefEqProofs only [go_sem,zA,zB,zC,zD,zE,reduceCtorEq,↓reduceIte,zF,zG,zH,zI]
  refine s_idx h2 (by omega) (by omega) ?_
  simp -implicitDefEqProofs only [go_sem,zA,zB,zC,zD,zE,reduceCtorEq,↓reduceIte,zF,zG,zH,zI]
  refine s_ld0 (hc2 _ (lk_l [go] _)) (by simp) (by simp) ?_
  simp -implicitDefEqProofs only [go_sem,zA,zB,zC,zD,zE,reduceCtorEq,↓reduceIte,zF,zG,zH,zI]
  refine ⟨fun e => ?_, fun ne1 => ⟨fun e => ?_, fun ne2 => ?_⟩⟩
  ·refine Up.to [] (Ent.nil _) ?_
   subst hR
   have ho : opE g (m : Int) = 9 := by rw [hop, if_pos e]
   exact .inl ⟨by rw [ho]; decide, rfl, by rw [ho]⟩
  ·refine Up.to [] (Ent.nil _) ?_
   subst hR
   have ho : opE g (m : Int) = 2 := by rw [hop, if_neg (by omega), if_pos e]
   exact .inl ⟨by rw [ho]; decide, rfl, by rw [ho]⟩
  ·obtain ⟨F, hval⟩ := fine_of V hs ne1 ne2
   have ho : opE g (m : Int) = 0 := by rw [hop, if_neg ne1, if_neg ne2]
   refine s_mkmap (fun bm => ?_)
   simp -implicitDefEqProofs only [go_sem,zA,zB,zC,zD,zE,reduceCtorEq,↓reduceIte,zF,zG,zH,zI]
   intro b
   refine Up.here ?_
   subst hR
   refine .inr ⟨ho, m, _, _, go, b, A, c, bm, rfl, by omega, F, rfl, by rw [hval], ⟨⟨_, List.mem_cons_self .., ?_⟩, hx.mono (lk_r [_, go] Γr), ?_⟩, MapM.new _ _ _ _⟩
   ·rw [bkC, hs]
    exact one_self _ _
   ·exact hS.mono (lk_sub fun g hg => by simp at hg; subst hg; simp)
theorem rank_count {Γr : Ctx} {g : Gr} {R : Option Addr} {cR : Nat} (hx : SlOk (lk Γr) R cR g.rs) {n : Int} (hn : -9223372036854775808 ≤ n ∧ n ≤ 9223372036854775807) :
  Ret Try.prog 98 [.agg #[.int .i64 g.ts, .int .i64 g.ns, .int .i64 g.st, .slice R g.rs.length cR], .int .i64 n] Γr [] (fun v Γ => Γ = [] ∧ ((opE g n ≠ 0 ∧ v = .tuple #[.int .i64 0, .int .i64 (opE g n)]) ∨
   (opE g n = 0 ∧ ∃ m : Nat, n = m ∧ m ≤ 24 ∧ Fine g m ∧ v = .tuple #[.int .i64 ((cntT g (mostN g m) g.st m : Nat) : Int), .int .i64 0]))) := by
 generalize hR : (fun (v : Value) (Γ : Ctx) => Γ = [] ∧ _) = R'
 refine ret_of_vc tr98 (Nat.le_of_ble_eq_true rfl) ?_
 simp -implicitDefEqProofs only [S98, S98_0, go_sem,zA,zB,zC,zD,zE,reduceCtorEq,↓reduceIte,zF,zG,zH,zI]
 intro bg
 refine CallVC.read (Γ := []) (rank_open (Γr := [] ++ Γr) hx hn) ?_
 rintro v Γ' (⟨hne, rfl, rfl⟩ | ⟨h0, m, gb, gm, go, b, An, cn, bm, rfl, hm, F, rfl, rfl, hB, hM⟩)
 ·simp -implicitDefEqProofs only [go_sem,zA,zB,zC,zD,zE,reduceCtorEq,↓reduceIte,zF,zG,zH,zI]
  refine Up.here ?_
  subst hR
  exact ⟨rfl, .inl ⟨hne, rfl⟩⟩
 ·simp -implicitDefEqProofs only [go_sem,zA,zB,zC,zD,zE,reduceCtorEq,↓reduceIte,zF,zG,zH,zI]
  refine Up.to [] (Ent.nil _) ?_
  subst hR
  exact ⟨rfl, .inr ⟨h0, m, rfl, hm, F, rfl⟩⟩
/-- what Of answers -/
def OfR (g : Gr) (x : Tr) (v : Value) : Prop := (tcF g x ≠ 0 ∧ v = .tuple #[.int .i64 0, .int .i64 0, .int .i64 (tcF g x)]) ∨
 (tcF g x = 0 ∧ ((x.rule < 0 ∨ (g.rs.getD x.rule.toNat ⟨0, []⟩).l ≠ g.st) ∧ v = .tuple #[.int .i64 0, .int .i64 0, .int .i64 3] ∨
   ¬ (x.rule < 0 ∨ (g.rs.getD x.rule.toNat ⟨0, []⟩).l ≠ g.st) ∧ ((opE g ((wdT x).length : Int) ≠ 0 ∧ v = .tuple #[.int .i64 0, .int .i64 0, .int .i64 (opE g ((wdT x).length : Int))]) ∨
    (opE g ((wdT x).length : Int) = 0 ∧ ∃ i : Nat, (lstT g (mostN g (wdT x).length) g.st (wdT x).length)[i]? = some x ∧ v = .tuple #[.int .i64 ((wdT x).length : Int), .int .i64 (i : Int), .int .i64 0]))))
theorem rank_ofB {Γr : Ctx} {g : Gr} {R : Option Addr} {cR : Nat} (hx : SlOk (lk Γr) R cR g.rs) (x : Tr) {A : Option Addr} {c : Nat} (hA : SlOk (lk Γr) A c x.kids) (hbig : numT x ≤ 20000000000) (hsmall : szT x ≤ 5000 → numT x ≤ 1048576) :
  Ret Try.prog 99 [.agg #[.int .i64 g.ts, .int .i64 g.ns, .int .i64 g.st, .slice R g.rs.length cR], .agg #[.int .i64 x.rule, .int .i64 x.term, .slice A x.kids.length c]] Γr [] (fun v Γ => Γ = [] ∧ OfR g x v) := by
 generalize hR : (fun (v : Value) (Γ : Ctx) => Γ = [] ∧ _) = R'
 refine ret_of_vc tr99 (Nat.le_of_ble_eq_true rfl) ?_
 simp -implicitDefEqProofs only [S99, S99_0, go_sem,zA,zB,zC,zD,zE,reduceCtorEq,↓reduceIte,zF,zG,zH,zI]
 intro bg bx
 refine CallVC.read (Γ := []) (tree_checkB (Γr := [] ++ Γr) hx x hA hbig hsmall) ?_
 rintro v Γ' ⟨rfl, rfl⟩
 simp -implicitDefEqProofs only [go_sem,zA,zB,zC,zD,zE,reduceCtorEq,↓reduceIte,zF,zG,zH,zI]
 refine ⟨fun hne => Up.here ?_, fun h0 => ?_⟩
 ·subst hR
  exact ⟨rfl, .inl ⟨hne, rfl⟩⟩
 have hck : ckF g = 0 := by
  unfold tcF at h0
  split at h0
  ·rename_i h; exact absurd h0 h
  ·rename_i h; exact Classical.not_not.1 h
 have hv : validT g x = true := by
  unfold tcF at h0
  rw [if_neg (by omega)] at h0
  split at h0
  ·omega
  ·split at h0
   ·assumption
   ·omega
 have hnum : numT x ≤ 1048576 := hsmall (by
  unfold tcF at h0
  rw [if_neg (by omega)] at h0
  split at h0
  ·omega
  ·omega)
 have V := ckF_ok hck
 have hvl := V.len
 have hsh := hx.short
 by_cases hr : x.rule = -1
 ·have hd : decide (x.rule < 0) = true := decide_eq_true (by omega)
  simp only [hd]
  simp -implicitDefEqProofs only [go_sem,zA,zB,zC,zD,zE,reduceCtorEq,↓reduceIte,zF,zG,zH,zI]
  refine s_idxg (b := 0) (o := 0) (by simp) ?_
  simp -implicitDefEqProofs only [go_sem,zA,zB,zC,zD,zE,reduceCtorEq,↓reduceIte,zF,zG,zH,zI]
  refine s_ldg0 (cs := [.int .i64 0]) (by simp) (by simp) (by simp) (by simp) ?_
  simp -implicitDefEqProofs only [go_sem,zA,zB,zC,zD,zE,reduceCtorEq,↓reduceIte,zF,zG,zH,zI]
  refine Up.here ?_
  subst hR
  exact ⟨rfl, .inr ⟨h0, .inl ⟨.inl (by omega), rfl⟩⟩⟩
 ·obtain ⟨p, hp, hxr, hxt, hsf, hvk⟩ := valid_node hv hr
  have hd : decide (x.rule < 0) = false := decide_eq_false (by omega)
  have hgd : (g.rs.getD x.rule.toNat ⟨0, []⟩) = g.rs[p] := by rw [hxr, Int.toNat_natCast]; simp [List.getD_eq_getElem?_getD, hp]
  obtain ⟨b0, o0, h0', A1, c1, hr1, hcr⟩ := hx.ru hp
  simp only [hd, hxr]
  refine s_idx h0' (by omega) (by omega) ?_
  simp -implicitDefEqProofs only [go_sem,zA,zB,zC,zD,zE,reduceCtorEq,↓reduceIte,zF,zG,zH,zI]
  refine s_ld0 (by simpa using hcr _ (lk_r [] _)) (by simp) (by simp) ?_
  simp -implicitDefEqProofs only [go_sem,zA,zB,zC,zD,zE,reduceCtorEq,↓reduceIte,zF,zG,zH,zI]
  refine ⟨fun hne => Up.here ?_, fun heq => ?_⟩
  ·subst hR
   exact ⟨rfl, .inr ⟨h0, .inl ⟨.inr (by rw [hgd]; exact hne.resolve_left (by omega)), rfl⟩⟩⟩
  have hns : ¬ (x.rule < 0 ∨ (g.rs.getD x.rule.toNat ⟨0, []⟩).l ≠ g.st) := by
   rw [hgd]
   rintro (q | q)
   ·omega
   ·exact q heq.2
  rw [← hxr]
  refine CallVC.read (Γ := []) (tree_word (Γr := [] ++ Γr) x hA hnum) ?_
  rintro v Γ' ⟨gw, rfl, hBw⟩
  obtain ⟨Aw, cw, rfl⟩ := hBw.val
  have hwl := wdT_le x
  simp -implicitDefEqProofs only [go_sem,zA,zB,zC,zD,zE,reduceCtorEq,↓reduceIte,zF,zG,zH,zI]
  refine CallVC.read (Γ := [gw]) (rank_open (Γr := [gw] ++ Γr) (hx.mono (lk_r [gw] _)) (n := ((wdT x).length : Int)) (by omega)) ?_
  rintro v Γ' (⟨hne, rfl, rfl⟩ | ⟨ho, m, gb, gm, go, b, An, cn, bm, hwm, hm, F, rfl, rfl, hB, hM⟩)
  ·simp -implicitDefEqProofs only [go_sem,zA,zB,zC,zD,zE,reduceCtorEq,↓reduceIte,zF,zG,zH,zI]
   refine ⟨fun _ => Up.to [] (Ent.nil _) ?_, fun h => absurd h hne⟩
   subst hR
   exact ⟨rfl, .inr ⟨h0, .inr ⟨hns, .inl ⟨hne, rfl⟩⟩⟩⟩
  ·have hwm : (wdT x).length = m := by omega
   simp -implicitDefEqProofs only [go_sem,zA,zB,zC,zD,zE,reduceCtorEq,↓reduceIte,zF,zG,zH,zI]
   subst hwm
   refine CallVC.perm (Γm := [gm]) (Γf := [gb, go, gw]) (book_of F hm x hv (Nat.le_refl _) (fun _ => by rw [hsf]; show InS g g.st _ g.rs[p].l _; rw [heq.2]; exact InS.self g g.st _) hnum (Γr := [gb, go, gw] ++ Γr) (hB.mono (lk_sub fun g hg => by simp at hg ⊢; rcases hg with rfl | rfl | hg <;> simp [*])) (hA.mono (lk_r [gb, go, gw] _)) hM (fun i p k w r h => by simp [mget] at h)) (List.Perm.swap gm gb _) (List.Sublist.refl _) ?_
   rintro v Γ' ⟨gm', lst', i, rfl, rfl, hM', hK', hi⟩
   simp -implicitDefEqProofs only [go_sem,zA,zB,zC,zD,zE,reduceCtorEq,↓reduceIte,zF,zG,zH,zI]
   refine Up.to [] (Ent.nil _) ?_
   subst hR
   refine ⟨rfl, .inr ⟨h0, .inr ⟨hns, .inr ⟨ho, i, ?_, rfl⟩⟩⟩⟩
   rw [hsf] at hi
   have hi : (lstT g (mostN g (wdT x).length) g.rs[p].l (wdT x).length)[i]? = some x := hi
   rw [heq.2] at hi
   exact hi
/- Lists of trees are without doubles, and what stands in them is valid: the plain law; no condition. -/
/-- words are as long as is said -/
def LenW (L : Int → Nat → List Tr) : Prop := ∀ (s : Sy) (k : Nat) x, x ∈ symL L s k → (wdT x).length = k
theorem leaf_in {L : Int → Nat → List Tr} {sn : Int} {k : Nat} {x : Tr} (h : x ∈ symL L ⟨true, sn⟩ k) : k = 1 ∧ x = ⟨-1, sn, []⟩ := by
 unfold symL at h
 rw [if_pos rfl] at h
 split at h
 ·exact ⟨by assumption, List.mem_singleton.1 h⟩
 ·simp at h
theorem row_wd {L : Int → Nat → List Tr} (hw : LenW L) : ∀ {l : List Sy} {k : Nat} {ks : List Tr}, ks ∈ rowL L l k → (wdL ks).length = k
 | [], k, ks, h => by
  simp only [rowL] at h
  split at h
  ·rename_i e
   simp only [List.mem_singleton] at h
   subst h e
   rfl
  ·simp at h
 | s :: l, k, ks, h => by
  rw [rowL] at h
  obtain ⟨j, hj, h⟩ := List.mem_flatMap.1 h
  obtain ⟨x, hx, h⟩ := List.mem_flatMap.1 h
  obtain ⟨y, hy, rfl⟩ := List.mem_map.1 h
  have h1 := hw s j x hx
  have h2 := row_wd hw hy
  have hj := List.mem_range.1 hj
  simp only [wdL, List.length_append]
  omega
theorem node_wd (p : Nat) (ks : List Tr) : wdT (⟨(p : Int), 0, ks⟩ : Tr) = wdL ks := by
 rw [wdT_eq, if_neg (by show ¬ (p : Int) = -1; omega)]
 rfl
theorem lst_wd (g : Gr) : ∀ h, LenW (lstT g h)
 | 0, s, k, x, hx => by
  obtain ⟨st, sn⟩ := s
  cases st with
  | true =>
   obtain ⟨h1, h2⟩ := leaf_in hx
   rw [h2, h1, wdT_eq, if_pos (show (⟨-1, sn, []⟩ : Tr).rule = -1 from rfl)]
   rfl
  | false => simp [symL, lstT] at hx
 | h + 1, s, k, x, hx => by
  obtain ⟨st, sn⟩ := s
  cases st with
  | true =>
   obtain ⟨h1, h2⟩ := leaf_in hx
   rw [h2, h1, wdT_eq, if_pos (show (⟨-1, sn, []⟩ : Tr).rule = -1 from rfl)]
   rfl
  | false =>
   have hx : x ∈ rulL (lstT g h) sn k 0 g.rs := hx
   obtain ⟨i, hi⟩ := List.mem_iff_getElem?.1 hx
   obtain ⟨p, y, ks, hp, _, _, _, hks, rfl⟩ := rulL_at (lstT_len g h) hi
   rw [node_wd]
   exact row_wd (lst_wd g h) (List.mem_of_getElem? hks)
/-- each at one place -/
def OnceS (L : Int → Nat → List Tr) : Prop := ∀ (s : Sy) (k x y : Nat) t, (symL L s k)[x]? = some t → (symL L s k)[y]? = some t → x = y
theorem row_once {L : Int → Nat → List Tr} {T : Int → Nat → Nat} (hL : LenL L T) (hw : LenW L) (hu : OnceS L) : ∀ {l : List Sy} {k x y : Nat} {ks : List Tr}, (rowL L l k)[x]? = some ks → (rowL L l k)[y]? = some ks → x = y
 | [], k, x, y, ks, h1, h2 => by
  have q1 := (List.getElem?_eq_some_iff.1 h1).1
  have q2 := (List.getElem?_eq_some_iff.1 h2).1
  have hl : (rowL L [] k).length ≤ 1 := by simp only [rowL]; split <;> simp
  omega
 | s :: l, k, x, y, ks, h1, h2 => by
  obtain ⟨j, q, z, t, ks1, a1, a2, a3, a4, a5, a6, a7⟩ := rowL_at hL h1
  obtain ⟨j', q', z', t', ks2, b1, b2, b3, b4, b5, b6, b7⟩ := rowL_at hL h2
  rw [a7] at b7
  simp only [List.cons.injEq] at b7
  obtain ⟨rfl, rfl⟩ := b7
  have e1 := hw s j t (List.mem_of_getElem? a5)
  have e2 := hw s j' t (List.mem_of_getElem? b5)
  have e : j = j' := by omega
  subst e
  have e3 := hu s j q q' t a5 b5
  have e4 := row_once hL hw hu a6 b6
  subst e3 e4
  rw [a4, b4]
theorem lst_once (g : Gr) : ∀ h, OnceS (lstT g h)
 | 0, s, k, x, y, t, h1, h2 => by
  obtain ⟨st, sn⟩ := s
  have q1 := (List.getElem?_eq_some_iff.1 h1).1
  have q2 := (List.getElem?_eq_some_iff.1 h2).1
  have hl : (symL (lstT g 0) ⟨st, sn⟩ k).length ≤ 1 := by
   unfold symL
   split
   ·split <;> simp
   ·simp [lstT]
  omega
 | h + 1, s, k, x, y, t, h1, h2 => by
  obtain ⟨st, sn⟩ := s
  cases st with
  | true =>
   have q1 := (List.getElem?_eq_some_iff.1 h1).1
   have q2 := (List.getElem?_eq_some_iff.1 h2).1
   have hl : (symL (lstT g (h + 1)) ⟨true, sn⟩ k).length ≤ 1 := by
    unfold symL
    rw [if_pos rfl]
    split <;> simp
   omega
  | false =>
   have h1 : (rulL (lstT g h) sn k 0 g.rs)[x]? = some t := h1
   have h2 : (rulL (lstT g h) sn k 0 g.rs)[y]? = some t := h2
   obtain ⟨p, z, ks, hp, a1, a2, a3, a4, a5⟩ := rulL_at (lstT_len g h) h1
   obtain ⟨p', z', ks', hp', b1, b2, b3, b4, b5⟩ := rulL_at (lstT_len g h) h2
   rw [a5] at b5
   simp only [Tr.mk.injEq, true_and] at b5
   obtain ⟨e1, rfl⟩ := b5
   have e1 : p = p' := by omega
   subst e1
   have := row_once (lstT_len g h) (lst_wd g h) (lst_once g h) a4 b4
   subst this
   rw [a3, b3]
/-- what stands in the lists is valid -/
def ValS (g : Gr) (L : Int → Nat → List Tr) : Prop := ∀ (s : Sy) (k : Nat) x, (s.t = true → 0 ≤ s.n ∧ s.n < g.ts) → x ∈ symL L s k → (symF g x).1 = s ∧ (symF g x).2 = true ∧ validT g x = true ∧ szT x = numT x
theorem leaf_val {g : Gr} {sn : Int} (h : 0 ≤ sn ∧ sn < g.ts) : (symF g ⟨-1, sn, []⟩).1 = ⟨true, sn⟩ ∧ (symF g ⟨-1, sn, []⟩).2 = true ∧ validT g ⟨-1, sn, []⟩ = true ∧ szT ⟨-1, sn, []⟩ = numT ⟨-1, sn, []⟩ := by
 have h1 : symF g ⟨-1, sn, []⟩ = (⟨true, sn⟩, true) := by
  unfold symF
  rw [if_pos (show (⟨-1, sn, []⟩ : Tr).rule = -1 from rfl)]
  simp [Tr.term, Tr.kids, h]
 refine ⟨by rw [h1], by rw [h1], ?_, by rw [szT_eq, numT_eq, if_pos (show (⟨-1, sn, []⟩ : Tr).rule = -1 from rfl)]; rfl⟩
 rw [validT_eq, h1]
 rfl
theorem row_val {g : Gr} {L : Int → Nat → List Tr} (hv : ValS g L) : ∀ {l : List Sy} {k : Nat} {ks : List Tr}, (∀ s ∈ l, s.t = true → 0 ≤ s.n ∧ s.n < g.ts) → ks ∈ rowL L l k → validL g ks l = true ∧ szL ks = numL ks
 | [], k, ks, _, h => by
  simp only [rowL] at h
  split at h
  ·simp only [List.mem_singleton] at h
   subst h
   exact ⟨rfl, rfl⟩
  ·simp at h
 | s :: l, k, ks, hs, h => by
  rw [rowL] at h
  obtain ⟨j, hj, h⟩ := List.mem_flatMap.1 h
  obtain ⟨x, hx, h⟩ := List.mem_flatMap.1 h
  obtain ⟨y, hy, rfl⟩ := List.mem_map.1 h
  obtain ⟨h1, h2, h3, h4⟩ := hv s j x (hs s (by simp)) hx
  obtain ⟨h5, h6⟩ := row_val hv (fun z hz => hs z (by simp [hz])) hy
  refine ⟨by simp only [validL, h1, h2, h3, h5]; simp, ?_⟩
  show szT x + szL y = numT x + numL y
  omega
theorem lst_val {g : Gr} (V : VG g) : ∀ h, ValS g (lstT g h)
 | 0, s, k, x, hs, hx => by
  obtain ⟨st, sn⟩ := s
  cases st with
  | true =>
   obtain ⟨_, rfl⟩ := leaf_in hx
   exact leaf_val (hs rfl)
  | false => simp [symL, lstT] at hx
 | h + 1, s, k, x, hs, hx => by
  obtain ⟨st, sn⟩ := s
  cases st with
  | true =>
   obtain ⟨_, rfl⟩ := leaf_in hx
   exact leaf_val (hs rfl)
  | false =>
   have hx : x ∈ rulL (lstT g h) sn k 0 g.rs := hx
   obtain ⟨i, hi⟩ := List.mem_iff_getElem?.1 hx
   obtain ⟨p, y, ks, hp, hl, _, _, hks, rfl⟩ := rulL_at (lstT_len g h) hi
   obtain ⟨h1, h2⟩ := row_val (lst_val V h) (fun s hs ht => by
    have := V.sym _ (List.getElem_mem hp) s hs
    exact ⟨this.1, this.2.1 ht⟩) (List.mem_of_getElem? hks)
   have hsf : symF g ⟨(p : Int), 0, ks⟩ = (⟨false, sn⟩, true) := by
    unfold symF
    rw [if_neg (by show ¬ (p : Int) = -1; omega), if_neg (by show ¬ ((p : Int) < 0 ∨ (g.rs.length : Int) ≤ p); omega)]
    show ((⟨false, (g.rs.getD (p : Int).toNat ⟨0, []⟩).l⟩ : Sy), decide ((0 : Int) = 0)) = _
    rw [Int.toNat_natCast]
    simp [List.getD_eq_getElem?_getD, hp, hl]
   refine ⟨by rw [hsf], by rw [hsf], ?_, ?_⟩
   ·rw [validT_eq, hsf]
    show (true && (decide ((p : Int) = -1) || validL g ks (g.rs.getD (p : Int).toNat ⟨0, []⟩).r)) = true
    rw [Int.toNat_natCast]
    simp [List.getD_eq_getElem?_getD, hp, h1]
   ·rw [szT_eq, numT_eq, if_neg (by show ¬ (p : Int) = -1; omega)]
    show 1 + szL ks = 1 + numL ks
    omega
/- The number of a tree that stands in the list: the plain law; no condition. -/
theorem opE_ck {g : Gr} {n : Int} (h : opE g n = 0) : ckF g = 0 ∧ cenE g n = 0 := by
 have h1 : cenE g n = 0 := by
  unfold opE at h
  split at h
  ·exact h
  ·rename_i q; exact Classical.not_not.1 q
 refine ⟨?_, h1⟩
 unfold cenE at h1
 split at h1
 ·exact h1
 ·rename_i q; exact Classical.not_not.1 q
theorem in_rule {g : Gr} {x : Tr} {st : Int} (h1 : (symF g x).1 = ⟨false, st⟩) (h2 : (symF g x).2 = true) : ¬ (x.rule < 0 ∨ (g.rs.getD x.rule.toNat ⟨0, []⟩).l ≠ st) := by
 unfold symF at h1 h2
 by_cases e : x.rule = -1
 ·rw [if_pos e] at h1
  simp at h1
 ·rw [if_neg e] at h1 h2
  by_cases e2 : x.rule < 0 ∨ (g.rs.length : Int) ≤ x.rule
  ·rw [if_pos e2] at h2
   simp at h2
  ·rw [if_neg e2] at h1
   simp only [Sy.mk.injEq, true_and] at h1
   rintro (h | h)
   ·exact e2 (.inl h)
   ·exact h h1
theorem of_lst {g : Gr} {m : Nat} (F : Fine g m) (h0 : opE g (m : Int) = 0) {k : Nat} {x : Tr} (hx : (lstT g (mostN g m) g.st m)[k]? = some x) {v : Value} (h : OfR g x v) :
  (5000 < szT x ∧ v = .tuple #[.int .i64 0, .int .i64 0, .int .i64 2]) ∨ (szT x ≤ 5000 ∧ v = .tuple #[.int .i64 (m : Int), .int .i64 (k : Int), .int .i64 0]) := by
 have hmem : x ∈ symL (lstT g (mostN g m)) ⟨false, g.st⟩ m := List.mem_of_getElem? hx
 have hw := lst_wd g (mostN g m) ⟨false, g.st⟩ m x hmem
 obtain ⟨h1, h2, h3, h4⟩ := lst_val F.V (mostN g m) ⟨false, g.st⟩ m x (fun h => by cases h) hmem
 have hr := in_rule h1 h2
 have hck := (opE_ck h0).1
 have ht : tcF g x = if 5000 < szT x then 2 else 0 := by
  unfold tcF
  rw [if_neg (by omega), if_pos h3]
 rcases h with ⟨hne, rfl⟩ | ⟨hz, hh⟩
 ·left
  rw [ht] at hne ⊢
  by_cases e : 5000 < szT x
  ·rw [if_pos e]
   exact ⟨e, rfl⟩
  ·rw [if_neg e] at hne
   exact absurd rfl hne
 ·right
  rw [ht] at hz
  by_cases e : 5000 < szT x
  ·rw [if_pos e] at hz
   cases hz
  refine ⟨by omega, ?_⟩
  rcases hh with ⟨hb, _⟩ | ⟨_, ⟨hb, _⟩ | ⟨_, i, hi, rfl⟩⟩
  ·exact absurd hb hr
  ·rw [hw] at hb
   exact absurd h0 hb
  ·rw [hw] at hi ⊢
   have := lst_once g (mostN g m) ⟨false, g.st⟩ m i k x hi hx
   rw [this]
theorem lst_few {g : Gr} {m : Nat} (F : Fine g m) {x : Tr} (hx : x ∈ lstT g (mostN g m) g.st m) : szT x ≤ 5000 → numT x ≤ 1048576 := by
 obtain ⟨_, _, _, h4⟩ := lst_val F.V (mostN g m) ⟨false, g.st⟩ m x (fun h => by cases h) hx
 omega
/- Copies of trees: tree.Clone; no condition. -/
/-- a tree of its own: the row of its kids can be changed -/
def OwnT (x : Tr) (v : Value) (Γ : Ctx) : Prop := ∃ gr gk w, Γ = [gr, gk] ∧ v = .agg #[.int .i64 x.rule, .int .i64 x.term, w] ∧ Bld gr (lk [gk]) 106 w x.kids
theorem OwnT.ok {x : Tr} {v : Value} {Γ : Ctx} (h : OwnT x v Γ) (hs : numT x ≤ 1048576) : ∃ A c, v = .agg #[.int .i64 x.rule, .int .i64 x.term, .slice A x.kids.length c] ∧ SlOk (lk Γ) A c x.kids := by
 obtain ⟨gr, gk, w, rfl, rfl, hB⟩ := h
 have h1 := numL_len x.kids
 have h2 := numT_eq x
 obtain ⟨A, c, rfl, hs⟩ := hB.slok (L' := lk [gr, gk]) (lk_sub (by simp)) (lk_sub (by simp)) (by omega)
 exact ⟨A, c, rfl, hs⟩
/- All subtrees in preorder: parlref5.parts; no condition. -/
theorem lit_tree {b : Nat} {L : Mem} {x : Tr} {cs : List Value} (hx : Rep.ok L x cs) : Bld (one b (.cells cs.toArray 106)) L 106 (.slice (some ⟨b, 0, none⟩) 1 1) [x] := by
 have hl := Rep.len hx
 refine ⟨cs, ⟨by rw [hl]; simp, .inr ⟨b, 0, 0, _, rfl, by simp, by simp [maxLen], one_self _ _, by simp [hl], ?_⟩⟩, fun i y hi => ?_⟩
 ·simp only [List.toList_toArray, List.drop_zero, List.length_cons, List.length_nil, Nat.zero_add, Nat.one_mul]
  rw [← hl, List.take_length]
 ·cases i with
  | zero => simp at hi; subst hi; exact ⟨cs, hx, fun j hj => by simp⟩
  | succ i => simp at hi
theorem lk_ctx {Γ Γr : Ctx} {e : PH} (h : Mem.le (lk Γ) (lk [e])) : Mem.le (lk (Γ ++ Γr)) (lk (e :: Γr)) := by
 rintro k o ⟨g, hg, hk⟩
 rcases List.mem_append.1 hg with hg | hg
 ·obtain ⟨z, hz, hzk⟩ := h k o ⟨g, hg, hk⟩
  exact ⟨z, by simp at hz; simp [hz], hzk⟩
 ·exact ⟨g, by simp [hg], hk⟩
/- The text of (*parlance/rank.book).tree as a statement; no condition. -/
def S169_1 : Stmt :=
 .block 1
 (.seq
 (.region
 [oq 25 (.mv (.tmp 23)),
 oq 26 (.idx 2 (.tmp 21) (.tmp 23)),
 oq 27 (.load true 2 (.tmp 26)),
 .mk (some 10) none
 (.alloc true 37 (.agg (Array.mk [.int .i64 0,.slice none 0 0]))),
 oq 9 (.mv (.tmp 25)),
 .mk none none (.store 2 (.tmp 10) (.tmp 27))]
 [0,2,3,5,8,9,10,21,22,23])
 (.seq
 (.seq
 (.region
 [oq 28 (.fld 0 (.tmp 10)),
 oq 29 (.load false 1 (.tmp 28)),
 oq 30 (.fld 1 (.tmp 5)),
 oq 31 (.load false 1 (.tmp 30)),
 oq 32 (.ibin .neq (.tmp 29) (.tmp 31))]
 [0,2,3,5,8,9,21,22,23,32])
 (.cond (.tmp 32) (.exit 1) .skip))
 (.seq
 (.region
 [oq 33 (.mv (.tmp 0)),oq 34 (.mv (.tmp 9)),
 oq 35 (.mv (.tmp 2)),
 .mk (some 36) none
 (.call (.func 197)
 [.tmp 33,.tmp 34,.const (.int .i64 0),.tmp 35]),
 oq 11 (.mv (.tmp 36))]
 [0,2,3,5,8,9,11,21,22,23])
 (.seq
 (.seq
 (.region
 [oq 37 (.mv (.tmp 3)),oq 38 (.mv (.tmp 11)),
 oq 39 (.ibin .lss (.tmp 37) (.tmp 38))]
 [0,2,3,5,8,9,11,21,22,23,39])
 (.cond (.tmp 39)
 (.seq
 (.region
 [oq 40 (.mv (.tmp 9)),oq 41 (.mv (.tmp 0)),
 oq 42 (.mv (.tmp 9)),oq 43 (.mv (.tmp 2)),
 oq 44 (.mv (.tmp 3)),
 .mk (some 45) none
 (.call (.func 201)
 [.tmp 41,.tmp 42,.const (.int .i64 0),.tmp 43,
 .tmp 44]),
 .mk (some 46) none
 (.build 106 [.int .i64 0,.int .i64 0,.slice none 0 0]
 [(0,1,.tmp 40),(2,1,.tmp 45)]),
 .mk none none (.store 3 (.tmp 8) (.tmp 46))]
 [8])
 .ret)
 .skip))
 (.region
 [oq 47 (.mv (.tmp 3)),oq 48 (.mv (.tmp 11)),
 oq 49 (.ibin .sub (.tmp 47) (.tmp 48)),
 oq 3 (.mv (.tmp 49))]
 [0,2,3,5,8,21,22,23])))))
def S169_2 : Stmt :=
 .region
 [oq 50 (.ibin .add (.tmp 23) (.const (.int .i64 1))),
 oq 23 (.mv (.tmp 50))]
 [0,2,3,5,8,21,22,23]
def S169_3 : Stmt :=
 .seq
 (.region [oq 24 (.ibin .lss (.tmp 23) (.tmp 22))]
 [0,2,3,5,8,21,22,23,24])
 (.seq (.cond (.tmp 24) .skip (.exit 0)) (.join S169_1 S169_2 [3,8] [0,2,5,21,22,23]))
def S169_0 : Stmt :=
 .seq
 (.region
 [oq 5 (.box true 39 (.tmp 1)),
 .mk (some 8) none
 (.alloc true 106
 (.agg (Array.mk [.int .i64 0,.int .i64 0,.slice none 0 0])))]
 [0,2,3,5,8])
 (.seq
 (.seq
 (.region
 [oq 12 (.fld 0 (.tmp 5)),
 oq 13 (.load false 1 (.tmp 12))]
 [0,2,3,5,8,13])
 (.cond (.tmp 13)
 (.seq
 (.region
 [oq 14 (.fld 1 (.tmp 5)),
 oq 15 (.load false 1 (.tmp 14)),
 .mk (some 16) none
 (.build 106 [.int .i64 0,.int .i64 0,.slice none 0 0]
 [(0,1,.const (.int .i64 (-1))),(1,1,.tmp 15)]),
 .mk none none (.store 3 (.tmp 8) (.tmp 16))]
 [8])
 .ret)
 .skip))
 (.seq
 (.seq
 (.region
 [oq 17 (.mv (.tmp 0)),oq 18 (.nilCheck (.tmp 17)),
 oq 19 (.fld 0 (.tmp 18)),oq 20 (.fld 3 (.tmp 19)),
 oq 21 (.load false 1 (.tmp 20)),
 oq 22 (.len false (.tmp 21)),
 oq 23 (.mv (.const (.int .i64 0)))]
 [0,2,3,5,8,21,22,23])
 (.block 0 (.loop S169_3 [3,8,23] [0,2,5,21,22])))
 (.seq
 (.region
 [.mk (some 51) none
 (.build 106 [.int .i64 0,.int .i64 0,.slice none 0 0] []),
 .mk none none (.store 3 (.tmp 8) (.tmp 51))]
 [8])
 .ret)))
def S169 : FnS := ⟨52,[(8,some (true,3))],S169_0⟩
theorem tr169 : trFn Try.prog 169 [5,8,10] [[0,2,3,5,8],[0,2,3,5,8,13],[8],[0,2,3,5,8,21,22,23],[3,8,23],[0,2,5,21,22],[0,2,3,5,8,21,22,23,24],[3,8],[0,2,5,21,22,23],[0,2,3,5,8,9,10,21,22,23],[0,2,3,5,8,9,21,22,23,32],[0,2,3,5,8,9,11,21,22,23],[0,2,3,5,8,9,11,21,22,23,39],[8],[0,2,3,5,8,21,22,23],[0,2,3,5,8,21,22,23],[8]] = some S169 := by kernel_rfl
/- The text of (*parlance/rank.book).kids as a statement; no condition. -/
def S201_1 : Stmt :=
 .seq
 (.seq
 (.region
 [oq 27 (.mv (.tmp 12)),oq 28 (.mv (.tmp 3)),
 oq 29 (.ibin .lss (.tmp 27) (.tmp 28)),
 oq 30 (.mv (.tmp 29)),
 .mk (some 31) (some (30,true)) (.mv (.tmp 4)),
 .mk (some 32) (some (30,true)) (.mv (.tmp 0)),
 .mk (some 33) (some (30,true)) (.mv (.tmp 1)),
 .mk (some 34) (some (30,true)) (.mv (.tmp 2)),
 .mk (some 35) (some (30,true)) (.mv (.tmp 12)),
 .mk (some 36) (some (30,true)) (.mv (.tmp 3)),
 .mk (some 37) (some (30,true))
 (.call (.func 211)
 [.tmp 32,.tmp 33,.tmp 34,.tmp 35,.tmp 36]),
 .mk (some 38) (some (30,true)) (.ibin .geq (.tmp 31) (.tmp 37)),
 oq 39 (.pick (.tmp 30) (.tmp 38) (.const (.bool false)))]
 [0,1,2,3,4,11,12,39])
 (.cond (.tmp 39) .skip (.exit 0)))
 (.seq
 (.block 1
 (.region
 [oq 42 (.mv (.tmp 4)),oq 43 (.mv (.tmp 0)),
 oq 44 (.mv (.tmp 1)),oq 45 (.mv (.tmp 2)),
 oq 46 (.mv (.tmp 12)),oq 47 (.mv (.tmp 3)),
 .mk (some 48) none
 (.call (.func 211)
 [.tmp 43,.tmp 44,.tmp 45,.tmp 46,.tmp 47]),
 oq 49 (.ibin .sub (.tmp 42) (.tmp 48)),
 oq 4 (.mv (.tmp 49))]
 [0,1,2,3,4,11,12]))
 (.region
 [oq 40 (.mv (.tmp 12)),
 oq 41 (.ibin .add (.tmp 40) (.const (.int .i64 1))),
 oq 12 (.mv (.tmp 41))]
 [0,1,2,3,4,11,12]))
def S201_0 : Stmt :=
 .seq (.region [oq 10 (.mv (.const (.slice none 0 0)))] [0,1,2,3,4])
 (.seq
 (.region
 [oq 14 (.mv (.tmp 0)),oq 15 (.nilCheck (.tmp 14)),
 oq 16 (.fld 0 (.tmp 15)),oq 17 (.fld 3 (.tmp 16)),
 oq 18 (.load false 1 (.tmp 17)),oq 19 (.mv (.tmp 1)),
 oq 20 (.idx 2 (.tmp 18) (.tmp 19)),
 oq 21 (.fld 1 (.tmp 20)),
 oq 22 (.load false 1 (.tmp 21)),oq 11 (.mv (.tmp 22))]
 [0,1,2,3,4,11])
 (.seq
 (.seq
 (.region
 [oq 23 (.mv (.tmp 2)),oq 24 (.mv (.tmp 11)),
 oq 25 (.len false (.tmp 24)),
 oq 26 (.ibin .eql (.tmp 23) (.tmp 25))]
 [0,1,2,3,4,11,26])
 (.cond (.tmp 26)
 (.seq (.region [oq 10 (.mv (.const (.slice none 0 0)))] [10])
 .ret)
 .skip))
 (.seq
 (.region [oq 12 (.mv (.const (.int .i64 0)))]
 [0,1,2,3,4,11,12])
 (.seq (.block 0 (.loop S201_1 [4,12] [0,1,2,3,11]))
 (.seq
 (.region
 [oq 50 (.mv (.tmp 0)),oq 51 (.mv (.tmp 1)),
 oq 52 (.mv (.tmp 2)),
 oq 53 (.ibin .add (.tmp 52) (.const (.int .i64 1))),
 oq 54 (.mv (.tmp 3)),oq 55 (.mv (.tmp 12)),
 oq 56 (.ibin .sub (.tmp 54) (.tmp 55)),
 .mk (some 57) none
 (.call (.func 197) [.tmp 50,.tmp 51,.tmp 53,.tmp 56]),
 oq 13 (.mv (.tmp 57))]
 [0,1,2,3,4,11,12,13])
 (.seq
 (.tree
 (.q (false,oq 58 (.mv (.tmp 0)))
 (.q (false,oq 59 (.mv (.tmp 11)))
 (.q (false,oq 60 (.mv (.tmp 2)))
 (.q (false,oq 63 (.mv (.tmp 12)))
 (.q (false,oq 64 (.mv (.tmp 4)))
 (.q (false,oq 65 (.mv (.tmp 13)))
 (.q (false,oq 69 (.mv (.tmp 0)))
 (.q (false,oq 70 (.mv (.tmp 1)))
 (.q (false,oq 71 (.mv (.tmp 2)))
 (.q (false,oq 73 (.mv (.tmp 3)))
 (.q (false,oq 74 (.mv (.tmp 12)))
 (.q (false,oq 76 (.mv (.tmp 4)))
 (.q (false,oq 77 (.mv (.tmp 13)))
 (.q
 (false,
 oq 61 (.idx 2 (.tmp 59) (.tmp 60)))
 (.q
 (false,
 .mk (some 66) none
 (.idiv .quo (.tmp 64) (.tmp 65)))
 (.q
 (false,
 .mk (some 72) none
 (.ibin .add (.tmp 71)
 (.const (.int .i64 1))))
 (.q
 (false,
 .mk (some 75) none
 (.ibin .sub (.tmp 73) (.tmp 74)))
 (.q
 (false,
 .mk (some 78) none
 (.idiv .rem (.tmp 76) (.tmp 77)))
 (.q
 (false,
 oq 62 (.load true 2 (.tmp 61)))
 (.alt
 (false,
 .mk (some 67) none
 (.call (.func 169)
 [.tmp 58,.tmp 62,.tmp 63,
 .tmp 66]))
 (.alt
 (false,
 .mk (some 68) none
 (.buildS 106 1
 [.int .i64 0,.int .i64 0,
 .slice none 0 0]
 [(0,3,.tmp 67)]))
 (.alt
 (false,
 .mk (some 79) none
 (.call (.func 201)
 [.tmp 69,.tmp 70,.tmp 72,
 .tmp 75,.tmp 78]))
 (.alt
 (false,
 .mk (some 80) none
 (.append 104 106 3 40
 (.agg
 (Array.mk
 [.int .i64 0,
 .int .i64 0,
 .slice none 0 0]))
 (.tmp 68) (.tmp 79)))
 (.q
 (false,
 oq 10 (.mv (.tmp 80)))
 .fin)
 .no)
 .no)
 (.alt
 (false,
 .mk (some 79) none
 (.call (.func 201)
 [.tmp 69,.tmp 70,.tmp 72,
 .tmp 75,.tmp 78]))
 (.alt
 (false,
 .mk (some 68) none
 (.buildS 106 1
 [.int .i64 0,.int .i64 0,
 .slice none 0 0]
 [(0,3,.tmp 67)]))
 (.alt
 (false,
 .mk (some 80) none
 (.append 104 106 3 40
 (.agg
 (Array.mk
 [.int .i64 0,
 .int .i64 0,
 .slice none 0 0]))
 (.tmp 68) (.tmp 79)))
 (.q
 (false,
 oq 10 (.mv (.tmp 80)))
 .fin)
 .no)
 .no)
 .no))
 .no))))))))))))))))))))
 [10])
 .ret))))))
def S201 : FnS := ⟨81,[(10,none)],S201_0⟩
theorem tr201 : trFn Try.prog 201 [] [[0,1,2,3,4],[0,1,2,3,4,11],[0,1,2,3,4,11,26],[10],[0,1,2,3,4,11,12],[4,12],[0,1,2,3,11],[0,1,2,3,4,11,12,39],[0,1,2,3,4,11,12],[0,1,2,3,4,11,12],[0,1,2,3,4,11,12,13],[10],[],[2,0,2,1,2,2,2,5,2,6,2,7,2,11,2,12,2,13,2,15,2,16,2,18,2,19,2,3,2,8,2,14,2,17,2,20,2,4,3,9,3,10,3,21,3,22,2,23,0,1,1,3,21,3,10,3,22,2,23,0,1,1,1,1],[],[],[],[],[1,2],[1,2,3],[],[],[],[6,7],[0,1,2,3,4,5,6,7,8],[0,1,2,3,4,5,6,7,8,9],[],[],[],[13],[],[],[15,16],[],[],[18,19],[0,1,2,3,4,5,6,7,8,9,11,12,13,14,15,16,17,18,19,20],[0,1,2,3,4,5,6,7,8,9,10,11,12,13,14,15,16,17,18,19,20,21],[0,1,2,3,4,5,6,7,8,9,10,11,12,13,14,15,16,17,18,19,20,21,22]] = some S201 := by kernel_rfl
/- rank: tree, kids walked; no condition. -/
/-- a tree was made, and numbers were remembered -/
def TreeQ (g : Gr) (n bm : Nat) (x : Tr) (v : Value) (Γ : Ctx) : Prop := ∃ gm lst gk A c, Γ = [gm, gk] ∧ v = .agg #[.int .i64 x.rule, .int .i64 x.term, .slice A x.kids.length c] ∧ SlOk (lk [gk]) A c x.kids ∧ MapM gm bm intsV (Value.int .i64) (okInts 3) lst ∧ KnW g n lst
def KidsQ (g : Gr) (n bm : Nat) (ks : List Tr) (v : Value) (Γ : Ctx) : Prop := ∃ gm lst gk A c, Γ = [gm, gk] ∧ v = .slice A ks.length c ∧ SlOk (lk [gk]) A c ks ∧ MapM gm bm intsV (Value.int .i64) (okInts 3) lst ∧ KnW g n lst
def TreeC (g : Gr) (n b : Nat) (R : Option Addr) (cR : Nat) (An : Option Addr) (cn bm : Nat) (x : Tr) : Prop := ∀ {s : Sy} {k i : Nat}, (symL (lstT g (mostN g n)) s k)[i]? = some x → k ≤ n → (s.t = false → InS g g.st n s.n k) →
 ∀ {Γr : Ctx} {gm : PH} {lst : List (List Int × Int)}, BookK (lk Γr) b g n R cR An cn bm → MapM gm bm intsV (Value.int .i64) (okInts 3) lst → KnW g n lst →
 Ret Try.prog 169 [.pointer (some ⟨b, 0, none⟩), .agg #[.bool s.t, .int .i64 s.n], .int .i64 (k : Int), .int .i64 (i : Int)] Γr [gm] (TreeQ g n bm x)
theorem kids_of {g : Gr} {n : Nat} (F : Fine g n) (hn : n ≤ 24) {b : Nat} {R : Option Addr} {cR : Nat} {An : Option Addr} {cn bm i : Nat} (hi : i < g.rs.length) : ∀ (ks : List Tr), (∀ x ∈ ks, TreeC g n b R cR An cn bm x) → ∀ (p k x : Nat), p ≤ g.rs[i].r.length → (rowL (lstT g (mostN g n)) (g.rs[i].r.drop p) k)[x]? = some ks → k ≤ n → InR g g.st n (g.rs[i].r.drop p) k →
  ∀ {Γr : Ctx} {gm : PH} {lst : List (List Int × Int)}, BookK (lk Γr) b g n R cR An cn bm → MapM gm bm intsV (Value.int .i64) (okInts 3) lst → KnW g n lst →
  Ret Try.prog 201 [.pointer (some ⟨b, 0, none⟩), .int .i64 (i : Int), .int .i64 (p : Int), .int .i64 (k : Int), .int .i64 (x : Int)] Γr [gm] (KidsQ g n bm ks) := by
 intro ks
 induction ks with
 | nil =>
  intro _ p k x hpl hx hk hI Γr gm lst hB hM hK
  have hpe : p = g.rs[i].r.length := Classical.byContradiction fun e => by
   have hlt : p < g.rs[i].r.length := by omega
   rw [List.drop_eq_getElem_cons hlt] at hx
   obtain ⟨_, _, _, _, _, _, _, _, _, _, _, q⟩ := rowL_at (lstT_len g (mostN g n)) hx
   cases q
  generalize hRR : KidsQ g n bm _ = R'
  refine ret_of_vc tr201 (Nat.le_of_ble_eq_true rfl) ?_
  simp -implicitDefEqProofs only [S201, S201_0, go_sem,zA,zB,zC,zD,zE,reduceCtorEq,↓reduceIte,zF,zG,zH,zI]
  have hsh := hB.rs.short
  have hvl := F.V.len
  obtain ⟨b0, o0, h0, A1, c1, hr1, hcr⟩ := hB.rs.ru hi
  refine s_ld (j := 3) (cells_lk (lk_r [gm] _ _ _ hB.out)) (by simp [bkC]) (by simp) ?_
  simp -implicitDefEqProofs only [bkC, go_sem,zA,zB,zC,zD,zE,reduceCtorEq,↓reduceIte,zF,zG,zH,zI]
  refine s_idx h0 (by omega) (by omega) ?_
  simp -implicitDefEqProofs only [go_sem,zA,zB,zC,zD,zE,reduceCtorEq,↓reduceIte,zF,zG,zH,zI]
  refine s_ld (j := 1) (by simpa using hcr _ (lk_r [gm] _)) (by simp) (by simp) ?_
  simp -implicitDefEqProofs only [go_sem,zA,zB,zC,zD,zE,reduceCtorEq,↓reduceIte,zF,zG,zH,zI]
  refine ⟨fun _ => Up.emp (Up.sel [[1], [0]] (by decide) fun _ _ => ?_), fun h => absurd (by omega) h⟩
  subst hRR
  exact ⟨gm, lst, _, none, 0, rfl, rfl, SlOk.nil, hM, hK⟩
 | cons t ks ih =>
  intro htr p k x hpl hx hk hI Γr gm lst hB hM hK
  have hlt : p < g.rs[i].r.length := Classical.byContradiction fun e => by
   rw [List.drop_eq_nil_of_le (by omega)] at hx
   simp only [rowL] at hx
   split at hx
   ·cases x with
    | zero => simp at hx
    | succ x => simp at hx
   ·simp at hx
  have hdrop : g.rs[i].r.drop p = g.rs[i].r[p] :: g.rs[i].r.drop (p + 1) := List.drop_eq_getElem_cons hlt
  have V := F.V
  have hpart := fun {Γr : Ctx} {gm : PH} {lst : List (List Int × Int)} (j : Nat) (hj : j ≤ k) => @part_of g n F hn b R cR An cn bm i p hi hlt (ways_all F hn hi (g.rs[i].r.length - (p + 1)) (p + 1) (by omega)) j k hj hk hI Γr gm lst
  have hways := @ways_all g n F hn b R cR An cn bm i hi (g.rs[i].r.length - (p + 1)) (p + 1) (by omega)
  have hr4 := V.right _ (List.getElem_mem hi)
  have hvl := V.len
  have hsh := hB.rs.short
  have hsym := V.sym _ (List.getElem_mem hi) _ (List.getElem_mem hlt)
  obtain ⟨b0, o0, h0, A1, c1, hr1, hcr⟩ := hB.rs.ru hi
  obtain ⟨b3, o3, h3, hc3⟩ := hr1.sy hlt
  have hfew := hI.few F (mostN g n)
  rw [hdrop] at hx hI hfew
  obtain ⟨j, q, y, t', ks', hj, hq, hy, hxe, ht, hks, he⟩ := rowL_at (lstT_len g (mostN g n)) hx
  have hkl := rowL_each (List.mem_of_getElem? hks)
  rw [List.length_drop] at hkl
  simp only [List.cons.injEq] at he
  obtain ⟨rfl, rfl⟩ := he
  have hIs := fun hs => hI.sym (M := mostN g n) hj hs (by omega)
  have hIr := hI.rest (M := mostN g n) hj (by omega)
  have htc0 : TreeC g n b R cR An cn bm t := htr t (by simp)
  have htc := fun {Γr gm lst} => @htc0 g.rs[i].r[p] j q ht (by omega) hIs Γr gm lst
  have ihk := fun {Γr gm lst} => @ih (fun x hx => htr x (by simp [hx])) (p + 1) (k - j) y (by omega) hks (by omega) hIr Γr gm lst
  have hfirst := row_first (cntT g (mostN g n)) g.rs[i].r[p] (g.rs[i].r.drop (p + 1)) hj
  have hxlt := (List.getElem?_eq_some_iff.1 hx).1
  rw [rowL_len (lstT_len g (mostN g n))] at hxlt
  have hqy : q * rowT (cntT g (mostN g n)) (g.rs[i].r.drop (p + 1)) (k - j) + y < symT (cntT g (mostN g n)) g.rs[i].r[p] j * rowT (cntT g (mostN g n)) (g.rs[i].r.drop (p + 1)) (k - j) := by
   have : (q + 1) * rowT (cntT g (mostN g n)) (g.rs[i].r.drop (p + 1)) (k - j) ≤ symT (cntT g (mostN g n)) g.rs[i].r[p] j * rowT (cntT g (mostN g n)) (g.rs[i].r.drop (p + 1)) (k - j) := Nat.mul_le_mul_right _ hq
   rw [Nat.add_mul] at this
   omega
  have htotal : symT (cntT g (mostN g n)) g.rs[i].r[p] j * rowT (cntT g (mostN g n)) (g.rs[i].r.drop (p + 1)) (k - j) < 1000000000 := by omega
  generalize hRR : KidsQ g n bm _ = R'
  refine ret_of_vc tr201 (Nat.le_of_ble_eq_true rfl) ?_
  simp -implicitDefEqProofs only [S201, S201_0, go_sem,zA,zB,zC,zD,zE,reduceCtorEq,↓reduceIte,zF,zG,zH,zI]
  generalize hT : cntT g (mostN g n) = T at *
  generalize hlL : g.rs[i].r.drop (p + 1) = l at *
  generalize hsS : g.rs[i].r[p] = s at *
  refine s_ld (j := 3) (cells_lk (lk_r [gm] _ _ _ hB.out)) (by simp [bkC]) (by simp) ?_
  simp -implicitDefEqProofs only [bkC, go_sem,zA,zB,zC,zD,zE,reduceCtorEq,↓reduceIte,zF,zG,zH,zI]
  refine s_idx h0 (by omega) (by omega) ?_
  simp -implicitDefEqProofs only [go_sem,zA,zB,zC,zD,zE,reduceCtorEq,↓reduceIte,zF,zG,zH,zI]
  refine s_ld (j := 1) (by simpa using hcr _ (lk_r [gm] _)) (by simp) (by simp) ?_
  simp -implicitDefEqProofs only [go_sem,zA,zB,zC,zD,zE,reduceCtorEq,↓reduceIte,zF,zG,zH,zI]
  refine ⟨fun h => absurd h (by omega), fun _ => ?_⟩
  have hM0 := hM
  have hK0 := hK
  clear hM hK
  refine s_loop (fun f vs Γ => ∃ (gm : PH) (lst : List (List Int × Int)) (jj : Nat), vs = [.v true (.int .i64 ((x - sumN (fun j => symT T s j * rowT T l (k - j)) jj : Nat) : Int)), .v true (.int .i64 (jj : Int))] ∧ Γ = [gm] ∧ jj + f = j ∧ MapM gm bm intsV (Value.int .i64) (okInts 3) lst ∧ KnW g n lst) j
   (Up.here ⟨gm, lst, 0, rfl, rfl, by omega, hM0, hK0⟩) ?_
  clear hM0 hK0
  rintro f vs Γ ⟨gm, lst, jj, rfl, rfl, hjf, hM, hK⟩
  simp -implicitDefEqProofs only [S201_1, go_sem,zA,zB,zC,zD,zE,reduceCtorEq,↓reduceIte,zF,zG,zH,zI]
  have hsj := sumN_mono (fun j => symT T s j * rowT T l (k - j)) (show jj ≤ j by omega)
  have hcase : jj < j ∨ jj = j := by omega
  rcases hcase with hjl | rfl
  ·have hs1 := sumN_mono (fun j => symT T s j * rowT T l (k - j)) (show jj + 1 ≤ j by omega)
   rw [sumN] at hs1
   have hdk : decide ((jj : Int) < (k : Int)) = true := decide_eq_true (by omega)
   simp only [hdk]
   refine ⟨fun h => ⟨h, ?_⟩, fun h => absurd h (by decide)⟩
   refine CallVC.perm (Γm := [gm]) (Γf := []) (hpart jj (by omega) (Γr := Γr) hB hM hK) (List.Perm.refl _) (List.Sublist.refl _) ?_
   rintro v Γ' ⟨gm, lst, rfl, rfl, hM, hK⟩
   simp -implicitDefEqProofs only [go_sem,zA,zB,zC,zD,zE,reduceCtorEq,↓reduceIte,zF,zG,zH,zI]
   refine ⟨fun _ => ?_, fun h => absurd (by omega) h⟩
   refine CallVC.perm (Γm := [gm]) (Γf := []) (hpart jj (by omega) (Γr := Γr) hB hM hK) (List.Perm.refl _) (List.Sublist.refl _) ?_
   rintro v Γ' ⟨gm, lst, rfl, rfl, hM, hK⟩
   have hw1 : IntKind.i64.wrap (((x - sumN (fun j => symT T s j * rowT T l (k - j)) jj : Nat) : Int) - ((symT T s jj * rowT T l (k - jj) : Nat) : Int)) = ((x - sumN (fun j => symT T s j * rowT T l (k - j)) (jj + 1) : Nat) : Int) := by
    rw [wrap_id (by omega) (by omega), sumN]
    omega
   simp -implicitDefEqProofs only [hw1, go_sem,zA,zB,zC,zD,zE,reduceCtorEq,↓reduceIte,zF,zG,zH,zI]
   simp (disch := omega) only [wrap_id]
   exact ⟨f - 1, by omega, Up.here ⟨gm, lst, jj + 1, rfl, rfl, by omega, hM, hK⟩⟩
  ·have hxz : x - sumN (fun j => symT T s j * rowT T l (k - j)) jj = q * rowT T l (k - jj) + y := by omega
   rw [hxz]
   refine ⟨fun h => ⟨h, ?_⟩, fun h => ⟨.int .i64 0, ?_⟩⟩
   ·have hdk : decide ((jj : Int) < (k : Int)) = true := decide_eq_true h
    simp only [hdk]
    refine CallVC.perm (Γm := [gm]) (Γf := []) (hpart jj (by omega) (Γr := Γr) hB hM hK) (List.Perm.refl _) (List.Sublist.refl _) ?_
    clear hM hK
    rintro v Γ' ⟨gm, lst, rfl, rfl, hM, hK⟩
    simp -implicitDefEqProofs only [go_sem,zA,zB,zC,zD,zE,reduceCtorEq,↓reduceIte,zF,zG,zH,zI]
    refine ⟨fun h => absurd h (by omega), fun _ => ?_⟩
    have hw3 : IntKind.i64.wrap ((p : Int) + 1) = ((p + 1 : Nat) : Int) := by rw [wrap_id (by omega) (by omega)]; rfl
    have hw4 : IntKind.i64.wrap ((k : Int) - (jj : Int)) = ((k - jj : Nat) : Int) := by rw [wrap_id (by omega) (by omega)]; omega
    have hqle := Nat.le_mul_of_pos_right q (show 0 < rowT T l (k - jj) by omega)
    have hquo : idivV .quo .i64 ((q * rowT T l (k - jj) + y : Nat) : Int) ((rowT T l (k - jj) : Nat) : Int) = .int .i64 (q : Int) := by
     show Value.int .i64 (IntKind.i64.wrap (((q * rowT T l (k - jj) + y : Nat) : Int).tdiv ((rowT T l (k - jj) : Nat) : Int))) = _
     rw [← Int.ofNat_tdiv, Nat.add_comm, Nat.add_mul_div_right _ _ (by omega), Nat.div_eq_of_lt hy, Nat.zero_add, wrap_id (by omega) (by omega)]
    have hrem' : idivV .rem .i64 ((q * rowT T l (k - jj) + y : Nat) : Int) ((rowT T l (k - jj) : Nat) : Int) = .int .i64 (y : Int) := by
     show Value.int .i64 (((q * rowT T l (k - jj) + y : Nat) : Int).tmod ((rowT T l (k - jj) : Nat) : Int)) = _
     rw [← Int.ofNat_tmod, Nat.mul_add_mod_self_right, Nat.mod_eq_of_lt hy]
    rw [hw3, hw4]
    refine CallVC.perm (Γm := [gm]) (Γf := []) (hways (k := k - jj) (by omega) hIr (Γr := Γr) hB hM hK) (List.Perm.refl _) (List.Sublist.refl _) ?_
    clear hM hK
    rintro v Γ' ⟨gm, lst, rfl, rfl, hM, hK⟩
    rw [hT]
    simp -implicitDefEqProofs only [go_sem,zA,zB,zC,zD,zE,reduceCtorEq,↓reduceIte,zF,zG,zH,zI]
    refine ⟨[gm], [], fun ψ Γ' => ∃ (gm gk : PH) (lst : List (List Int × Int)) (A : Option Addr) (c : Nat), ψ = [(10, .v true (.slice A (t :: ks).length c))] ∧ Γ' = [gm, gk] ∧ SlOk (lk [gk]) A c (t :: ks) ∧ MapM gm bm intsV (Value.int .i64) (okInts 3) lst ∧ KnW g n lst, Ent.refl _, ?_, ?_⟩
    ·simp -implicitDefEqProofs only [hw3, hw4, go_sem,zA,zB,zC,zD,zE,reduceCtorEq,↓reduceIte,zF,zG,zH,zI]
     refine s_idx h3 (by omega) (by omega) ?_
     simp -implicitDefEqProofs only [hquo, hrem', hw3, hw4, go_sem,zA,zB,zC,zD,zE,reduceCtorEq,↓reduceIte,zF,zG,zH,zI]
     refine ⟨by omega, by omega, ?_⟩
     refine s_ld0 (by simpa using hc3 _ (lk_r [gm] _)) (by simp) (by simp) ?_
     simp -implicitDefEqProofs only [hw3, hw4, go_sem,zA,zB,zC,zD,zE,reduceCtorEq,↓reduceIte,zF,zG,zH,zI]
     refine CallVC.perm (Γm := [gm]) (Γf := []) (htc (Γr := Γr) hB hM hK) (List.Perm.refl _) (List.Sublist.refl _) ?_
     clear hM hK
     rintro v Γ' ⟨gm, lst, gk, At, ct, rfl, rfl, hSt, hM, hK⟩
     simp -implicitDefEqProofs only [go_sem,zA,zB,zC,zD,zE,reduceCtorEq,↓reduceIte,zF,zG,zH,zI]
     refine ⟨fun b1 => ?_, ?_⟩
     ·refine CallVC.perm (Γm := [gm]) (Γf := [_, gk]) (ihk (Γr := [_, gk] ++ Γr) (hB.mono (lk_r [_, gk] Γr)) hM hK) (List.Perm.swap gm _ _) (List.Sublist.refl _) ?_
      clear hM hK
      rintro v Γ' ⟨gm, lst, gk2, Ak, ck, rfl, rfl, hSk, hM, hK⟩
      simp -implicitDefEqProofs only [go_sem,zA,zB,zC,zD,zE,reduceCtorEq,↓reduceIte,zF,zG,zH,zI]
      refine s_appL (α := Tr) (ix := 2) (L := lk [gk]) (L' := lk [gk2, gk]) (L2 := lk [gk2]) rfl (lit_tree (ok_tr.2 ⟨At, ct, rfl, hSt⟩)) (lk_sub (by simp)) hSk (lk_sub (by simp)) (lk_sub (by simp)) rfl (by simp; omega) (by simp; unfold maxLen; omega) ?_
      intro v' g' hB' _
      obtain ⟨A2, c2, rfl, hS2⟩ := hB'.slok (L' := lk [gk2, g', gk]) (lk_sub (by simp)) (lk_sub (by simp)) (by simp; omega)
      simp -implicitDefEqProofs only [go_sem,zA,zB,zC,zD,zE,reduceCtorEq,↓reduceIte,zF,zG,zH,zI]
      exact Up.sel [[0], [1, 2, 3]] (by decide) fun _ hle => ⟨gm, _, lst, A2, c2, rfl, rfl, hS2.mono (hle [1, 2, 3] (by simp)), hM, hK⟩
     ·refine CallVC.perm (Γm := [gm]) (Γf := [gk]) (ihk (Γr := [gk] ++ Γr) (hB.mono (lk_r [gk] Γr)) hM hK) (List.Perm.refl _) (List.Sublist.refl _) ?_
      clear hM hK
      rintro v Γ' ⟨gm, lst, gk2, Ak, ck, rfl, rfl, hSk, hM, hK⟩
      simp -implicitDefEqProofs only [go_sem,zA,zB,zC,zD,zE,reduceCtorEq,↓reduceIte,zF,zG,zH,zI]
      intro b1
      refine s_appL (α := Tr) (ix := 0) (L := lk [gk]) (L' := lk [gk2, gk]) (L2 := lk [gk2]) rfl (lit_tree (ok_tr.2 ⟨At, ct, rfl, hSt⟩)) (lk_sub (by simp)) hSk (lk_sub (by simp)) (lk_sub (by simp)) rfl (by simp; omega) (by simp; unfold maxLen; omega) ?_
      intro v' g' hB' _
      obtain ⟨A2, c2, rfl, hS2⟩ := hB'.slok (L' := lk [g', gk2, gk]) (lk_sub (by simp)) (lk_sub (by simp)) (by simp; omega)
      simp -implicitDefEqProofs only [go_sem,zA,zB,zC,zD,zE,reduceCtorEq,↓reduceIte,zF,zG,zH,zI]
      exact Up.sel [[1], [0, 2, 3]] (by decide) fun _ hle => ⟨gm, _, lst, A2, c2, rfl, rfl, hS2.mono (hle [0, 2, 3] (by simp)), hM, hK⟩
    ·rintro ψ Γ' ⟨gm, gk, lst, A, c, rfl, rfl, hS, hM, hK⟩
     simp -implicitDefEqProofs only [go_sem,zA,zB,zC,zD,zE,reduceCtorEq,↓reduceIte,zF,zG,zH,zI]
     refine Up.here ?_
     subst hRR
     exact ⟨gm, lst, gk, A, c, rfl, rfl, hS, hM, hK⟩
   ·have hdk : decide ((jj : Int) < (k : Int)) = false := by simpa using h
    simp only [hdk]
    simp -implicitDefEqProofs only [go_sem,zA,zB,zC,zD,zE,reduceCtorEq,↓reduceIte,zF,zG,zH,zI]
    have hw3 : IntKind.i64.wrap ((p : Int) + 1) = ((p + 1 : Nat) : Int) := by rw [wrap_id (by omega) (by omega)]; rfl
    have hw4 : IntKind.i64.wrap ((k : Int) - (jj : Int)) = ((k - jj : Nat) : Int) := by rw [wrap_id (by omega) (by omega)]; omega
    have hqle := Nat.le_mul_of_pos_right q (show 0 < rowT T l (k - jj) by omega)
    have hquo : idivV .quo .i64 ((q * rowT T l (k - jj) + y : Nat) : Int) ((rowT T l (k - jj) : Nat) : Int) = .int .i64 (q : Int) := by
     show Value.int .i64 (IntKind.i64.wrap (((q * rowT T l (k - jj) + y : Nat) : Int).tdiv ((rowT T l (k - jj) : Nat) : Int))) = _
     rw [← Int.ofNat_tdiv, Nat.add_comm, Nat.add_mul_div_right _ _ (by omega), Nat.div_eq_of_lt hy, Nat.zero_add, wrap_id (by omega) (by omega)]
    have hrem' : idivV .rem .i64 ((q * rowT T l (k - jj) + y : Nat) : Int) ((rowT T l (k - jj) : Nat) : Int) = .int .i64 (y : Int) := by
     show Value.int .i64 (((q * rowT T l (k - jj) + y : Nat) : Int).tmod ((rowT T l (k - jj) : Nat) : Int)) = _
     rw [← Int.ofNat_tmod, Nat.mul_add_mod_self_right, Nat.mod_eq_of_lt hy]
    rw [hw3, hw4]
    refine CallVC.perm (Γm := [gm]) (Γf := []) (hways (k := k - jj) (by omega) hIr (Γr := Γr) hB hM hK) (List.Perm.refl _) (List.Sublist.refl _) ?_
    clear hM hK
    rintro v Γ' ⟨gm, lst, rfl, rfl, hM, hK⟩
    rw [hT]
    simp -implicitDefEqProofs only [go_sem,zA,zB,zC,zD,zE,reduceCtorEq,↓reduceIte,zF,zG,zH,zI]
    refine ⟨[gm], [], fun ψ Γ' => ∃ (gm gk : PH) (lst : List (List Int × Int)) (A : Option Addr) (c : Nat), ψ = [(10, .v true (.slice A (t :: ks).length c))] ∧ Γ' = [gm, gk] ∧ SlOk (lk [gk]) A c (t :: ks) ∧ MapM gm bm intsV (Value.int .i64) (okInts 3) lst ∧ KnW g n lst, Ent.refl _, ?_, ?_⟩
    ·simp -implicitDefEqProofs only [hw3, hw4, go_sem,zA,zB,zC,zD,zE,reduceCtorEq,↓reduceIte,zF,zG,zH,zI]
     refine s_idx h3 (by omega) (by omega) ?_
     simp -implicitDefEqProofs only [hquo, hrem', hw3, hw4, go_sem,zA,zB,zC,zD,zE,reduceCtorEq,↓reduceIte,zF,zG,zH,zI]
     refine ⟨by omega, by omega, ?_⟩
     refine s_ld0 (by simpa using hc3 _ (lk_r [gm] _)) (by simp) (by simp) ?_
     simp -implicitDefEqProofs only [hw3, hw4, go_sem,zA,zB,zC,zD,zE,reduceCtorEq,↓reduceIte,zF,zG,zH,zI]
     refine CallVC.perm (Γm := [gm]) (Γf := []) (htc (Γr := Γr) hB hM hK) (List.Perm.refl _) (List.Sublist.refl _) ?_
     clear hM hK
     rintro v Γ' ⟨gm, lst, gk, At, ct, rfl, rfl, hSt, hM, hK⟩
     simp -implicitDefEqProofs only [go_sem,zA,zB,zC,zD,zE,reduceCtorEq,↓reduceIte,zF,zG,zH,zI]
     refine ⟨fun b1 => ?_, ?_⟩
     ·refine CallVC.perm (Γm := [gm]) (Γf := [_, gk]) (ihk (Γr := [_, gk] ++ Γr) (hB.mono (lk_r [_, gk] Γr)) hM hK) (List.Perm.swap gm _ _) (List.Sublist.refl _) ?_
      clear hM hK
      rintro v Γ' ⟨gm, lst, gk2, Ak, ck, rfl, rfl, hSk, hM, hK⟩
      simp -implicitDefEqProofs only [go_sem,zA,zB,zC,zD,zE,reduceCtorEq,↓reduceIte,zF,zG,zH,zI]
      refine s_appL (α := Tr) (ix := 2) (L := lk [gk]) (L' := lk [gk2, gk]) (L2 := lk [gk2]) rfl (lit_tree (ok_tr.2 ⟨At, ct, rfl, hSt⟩)) (lk_sub (by simp)) hSk (lk_sub (by simp)) (lk_sub (by simp)) rfl (by simp; omega) (by simp; unfold maxLen; omega) ?_
      intro v' g' hB' _
      obtain ⟨A2, c2, rfl, hS2⟩ := hB'.slok (L' := lk [gk2, g', gk]) (lk_sub (by simp)) (lk_sub (by simp)) (by simp; omega)
      simp -implicitDefEqProofs only [go_sem,zA,zB,zC,zD,zE,reduceCtorEq,↓reduceIte,zF,zG,zH,zI]
      exact Up.sel [[0], [1, 2, 3]] (by decide) fun _ hle => ⟨gm, _, lst, A2, c2, rfl, rfl, hS2.mono (hle [1, 2, 3] (by simp)), hM, hK⟩
     ·refine CallVC.perm (Γm := [gm]) (Γf := [gk]) (ihk (Γr := [gk] ++ Γr) (hB.mono (lk_r [gk] Γr)) hM hK) (List.Perm.refl _) (List.Sublist.refl _) ?_
      clear hM hK
      rintro v Γ' ⟨gm, lst, gk2, Ak, ck, rfl, rfl, hSk, hM, hK⟩
      simp -implicitDefEqProofs only [go_sem,zA,zB,zC,zD,zE,reduceCtorEq,↓reduceIte,zF,zG,zH,zI]
      intro b1
      refine s_appL (α := Tr) (ix := 0) (L := lk [gk]) (L' := lk [gk2, gk]) (L2 := lk [gk2]) rfl (lit_tree (ok_tr.2 ⟨At, ct, rfl, hSt⟩)) (lk_sub (by simp)) hSk (lk_sub (by simp)) (lk_sub (by simp)) rfl (by simp; omega) (by simp; unfold maxLen; omega) ?_
      intro v' g' hB' _
      obtain ⟨A2, c2, rfl, hS2⟩ := hB'.slok (L' := lk [g', gk2, gk]) (lk_sub (by simp)) (lk_sub (by simp)) (by simp; omega)
      simp -implicitDefEqProofs only [go_sem,zA,zB,zC,zD,zE,reduceCtorEq,↓reduceIte,zF,zG,zH,zI]
      exact Up.sel [[1], [0, 2, 3]] (by decide) fun _ hle => ⟨gm, _, lst, A2, c2, rfl, rfl, hS2.mono (hle [0, 2, 3] (by simp)), hM, hK⟩
    ·rintro ψ Γ' ⟨gm, gk, lst, A, c, rfl, rfl, hS, hM, hK⟩
     simp -implicitDefEqProofs only [go_sem,zA,zB,zC,zD,zE,reduceCtorEq,↓reduceIte,zF,zG,zH,zI]
     refine Up.here ?_
     subst hRR
     exact ⟨gm, lst, gk, A, c, rfl, rfl, hS, hM, hK⟩
theorem book_tree {g : Gr} {n : Nat} (F : Fine g n) (hn : n ≤ 24) {b : Nat} {R : Option Addr} {cR : Nat} {An : Option Addr} {cn bm : Nat} (x : Tr) : TreeC g n b R cR An cn bm x := by
 refine Tr.ind (p := fun x => TreeC g n b R cR An cn bm x) (fun x ih => ?_) x
 intro s k i hx hk hI Γr gm lst hB hM hK
 generalize hRR : TreeQ g n bm x = R'
 refine ret_of_vc tr169 (Nat.le_of_ble_eq_true rfl) ?_
 obtain ⟨st, sn⟩ := s
 cases st with
 | true =>
  simp -implicitDefEqProofs only [S169, S169_0, go_sem,zA,zB,zC,zD,zE,reduceCtorEq,↓reduceIte,zF,zG,zH,zI]
  have hx1 : x = ⟨-1, sn, []⟩ := by
   unfold symL at hx
   simp only [if_true] at hx
   split at hx
   ·cases i with
    | zero => simp at hx; exact hx.symm
    | succ i => simp at hx
   ·simp at hx
  refine Up.emp (Up.sel [[1], [0]] (by decide) fun _ _ => ?_)
  subst hRR
  subst hx1
  exact ⟨gm, lst, _, none, 0, rfl, rfl, SlOk.nil, hM, hK⟩
 | false =>
  have hI := hI rfl
  have hfin := hI.fin F hk
  have hfew := hI.few F (mostN g n + 1)
  have hlst := lstT_eq (g := g) (show mostN g n ≤ mostN g n + 1 by omega) (hfin (mostN g n + 1) (by omega)).symm
  have hx : (lstT g (mostN g n) sn k)[i]? = some x := hx
  rw [hlst] at hx
  obtain ⟨p, y, ks, hp, hpl, hy, hie, hks, rfl⟩ := rulL_at (lstT_len g (mostN g n)) hx
  have hcnt : cntT g (mostN g n + 1) sn k = sumR (cntT g (mostN g n)) sn k g.rs := rfl
  rw [hcnt] at hfew
  have hvl := F.V.len
  have hsh := hB.rs.short
  have hways := fun (q : Nat) (hq : q < g.rs.length) => @ways_all g n F hn b R cR An cn bm q hq g.rs[q].r.length 0 (by omega)
  have hkids := fun {Γr gm lst} => @kids_of g n F hn b R cR An cn bm p hp ks (fun z hz => ih z hz) 0 k y (by omega) (by rw [List.drop_zero]; exact hks) hk (by rw [List.drop_zero]; exact hI.rule (List.getElem_mem hp) hpl) Γr gm lst
  generalize hT : cntT g (mostN g n) = T at *
  have hyr : sumR T sn k (g.rs.take p) + rowT T g.rs[p].r k ≤ sumR T sn k g.rs := by
   have h1 := sumR_take T sn k g.rs (p + 1)
   rw [List.take_succ_eq_append_getElem hp, sumR_snoc, if_pos hpl] at h1
   exact h1
  simp -implicitDefEqProofs only [S169, S169_0, go_sem,zA,zB,zC,zD,zE,reduceCtorEq,↓reduceIte,zF,zG,zH,zI]
  intro b5 b8
  refine s_ld (j := 3) (cells_lk (lk_r [gm] _ _ _ hB.out)) (by simp [bkC]) (by simp) ?_
  simp -implicitDefEqProofs only [bkC, go_sem,zA,zB,zC,zD,zE,reduceCtorEq,↓reduceIte,zF,zG,zH,zI]
  have hM0 := hM
  have hK0 := hK
  clear hM hK
  refine s_loop (fun f vs Γ => ∃ (gm : PH) (lst : List (List Int × Int)) (q : Nat), vs = [.v true (.int .i64 ((i - sumR T sn k (g.rs.take q) : Nat) : Int)), .box b8 106 [.int .i64 0, .int .i64 0, .slice none 0 0], .v true (.int .i64 (q : Int))] ∧ Γ = [gm] ∧ q + f = p ∧ MapM gm bm intsV (Value.int .i64) (okInts 3) lst ∧ KnW g n lst) p
   (Up.here ⟨gm, lst, 0, by rw [List.take_zero]; rfl, rfl, by omega, hM0, hK0⟩) ?_
  clear hM0 hK0
  rintro f vs Γ ⟨gm, lst, q, rfl, rfl, hqf, hM, hK⟩
  simp -implicitDefEqProofs only [S169_3, go_sem,zA,zB,zC,zD,zE,reduceCtorEq,↓reduceIte,zF,zG,zH,zI]
  refine ⟨fun _ => ?_, fun h => absurd (by omega) h⟩
  have hq : q < g.rs.length := by omega
  have htk : g.rs.take (q + 1) = g.rs.take q ++ [g.rs[q]] := List.take_succ_eq_append_getElem hq
  have hsn := sumR_snoc T sn k g.rs[q] (g.rs.take q)
  rw [← htk] at hsn
  obtain ⟨b4, o4, h4, A4, c4, hr4', hc4⟩ := hB.rs.ru hq
  have hqp : sumR T sn k (g.rs.take q) ≤ sumR T sn k (g.rs.take p) := by
   have := sumR_take T sn k (g.rs.take p) q
   rwa [List.take_take, Nat.min_eq_left (by omega)] at this
  refine s_join (fun vs Γ => q < p ∧ ∃ (gm : PH) (lst : List (List Int × Int)), vs = [.v true (.int .i64 ((i - sumR T sn k (g.rs.take (q + 1)) : Nat) : Int)), .box b8 106 [.int .i64 0, .int .i64 0, .slice none 0 0]] ∧ Γ = [gm] ∧ MapM gm bm intsV (Value.int .i64) (okInts 3) lst ∧ KnW g n lst) ?_ ?_
  ·simp -implicitDefEqProofs only [S169_1, go_sem,zA,zB,zC,zD,zE,reduceCtorEq,↓reduceIte,zF,zG,zH,zI]
   refine s_idx h4 (by omega) (by omega) ?_
   simp -implicitDefEqProofs only [go_sem,zA,zB,zC,zD,zE,reduceCtorEq,↓reduceIte,zF,zG,zH,zI]
   refine s_ld0 (by simpa using hc4 _ (lk_r [gm] _)) (by simp) (by simp) ?_
   simp -implicitDefEqProofs only [go_sem,zA,zB,zC,zD,zE,reduceCtorEq,↓reduceIte,zF,zG,zH,zI]
   have hpl : g.rs[p].l = sn := hpl
   have hie : i = sumR T sn k (g.rs.take p) + y := hie
   refine ⟨fun hne => Up.here ⟨?_, gm, lst, ?_, rfl, hM, hK⟩, fun heq => ?_⟩
   ·rcases Nat.lt_or_ge q p with c | c
    ·exact c
    ·have : q = p := by omega
     subst this
     exact absurd hpl hne
   ·rw [if_neg hne] at hsn
    simp only [hsn, Nat.add_zero]
   ·rw [if_pos heq] at hsn
    have hwk := @hways q hq k hk (by rw [List.drop_zero]; exact hI.rule (List.getElem_mem hq) heq) Γr gm lst hB hM hK
    rw [List.drop_zero, hT] at hwk
    refine CallVC.perm (Γm := [gm]) (Γf := []) hwk (List.Perm.refl _) (List.Sublist.refl _) ?_
    clear hM hK
    rintro v Γ' ⟨gm, lst, rfl, rfl, hM, hK⟩
    simp -implicitDefEqProofs only [go_sem,zA,zB,zC,zD,zE,reduceCtorEq,↓reduceIte,zF,zG,zH,zI]
    refine ⟨fun hlt => ?_, fun hge => ?_⟩
    ·have hqe : q = p := by
      rcases Nat.lt_or_ge q p with c | c
      ·have hqp1 : sumR T sn k (g.rs.take (q + 1)) ≤ sumR T sn k (g.rs.take p) := by
        have := sumR_take T sn k (g.rs.take p) (q + 1)
        rwa [List.take_take, Nat.min_eq_left (by omega)] at this
       omega
      ·omega
     subst hqe
     have hiy : i - sumR T sn k (g.rs.take q) = y := by omega
     rw [hiy]
     refine CallVC.perm (Γm := [gm]) (Γf := []) (hkids (Γr := Γr) hB hM hK) (List.Perm.refl _) (List.Sublist.refl _) ?_
     clear hM hK
     rintro v Γ' ⟨gm, lst, gk, A, c, rfl, rfl, hS, hM, hK⟩
     simp -implicitDefEqProofs only [go_sem,zA,zB,zC,zD,zE,reduceCtorEq,↓reduceIte,zF,zG,zH,zI]
     refine Up.here ?_
     subst hRR
     exact ⟨gm, lst, gk, A, c, rfl, rfl, hS, hM, hK⟩
    ·have hql : q < p := by
      rcases Nat.lt_or_ge q p with c | c
      ·exact c
      ·have : q = p := by omega
       subst this
       omega
     have hqp1 : sumR T sn k (g.rs.take (q + 1)) ≤ sumR T sn k (g.rs.take p) := by
      have := sumR_take T sn k (g.rs.take p) (q + 1)
      rwa [List.take_take, Nat.min_eq_left (by omega)] at this
     have hw1 : IntKind.i64.wrap (((i - sumR T sn k (g.rs.take q) : Nat) : Int) - ((rowT T g.rs[q].r k : Nat) : Int)) = ((i - sumR T sn k (g.rs.take (q + 1)) : Nat) : Int) := by
      rw [wrap_id (by omega) (by omega)]
      omega
     rw [hw1]
     exact Up.here ⟨hql, gm, lst, rfl, rfl, hM, hK⟩
  ·rintro vs Γ' ⟨hqlt, gm, lst, rfl, rfl, hM, hK⟩
   simp -implicitDefEqProofs only [S169_2, go_sem,zA,zB,zC,zD,zE,reduceCtorEq,↓reduceIte,zF,zG,zH,zI]
   simp (disch := omega) only [wrap_id]
   exact ⟨f - 1, by omega, Up.here ⟨gm, lst, q + 1, rfl, rfl, by omega, hM, hK⟩⟩
/- The text of parlance/rank.Tree as a statement; no condition. -/
def S104_0 : Stmt :=
 .seq
 (.region
 [oq 3 (.box true 57 (.tmp 0)),
 .mk (some 6) none
 (.alloc true 106
 (.agg (Array.mk [.int .i64 0,.int .i64 0,.slice none 0 0]))),
 oq 7 (.mv (.const (.int .i64 0)))]
 [1,2,3,6])
 (.seq
 (.region
 [oq 12 (.load true 4 (.tmp 3)),oq 13 (.mv (.tmp 1)),
 oq 14 (.call (.func 164) [.tmp 12,.tmp 13]),
 oq 11 (.mv (.tmp 14)),oq 15 (.extract 0 (.tmp 11)),
 oq 16 (.extract 1 (.tmp 11)),
 oq 17 (.extract 2 (.tmp 11)),oq 8 (.mv (.tmp 15)),
 oq 9 (.mv (.tmp 16)),oq 10 (.mv (.tmp 17))]
 [1,2,3,6,8,9,10])
 (.seq
 (.seq
 (.region
 [oq 18 (.mv (.tmp 10)),
 oq 19 (.ibin .neq (.tmp 18) (.const (.int .i64 0)))]
 [1,2,3,6,8,9,10,19])
 (.cond (.tmp 19)
 (.seq
 (.region
 [.mk (some 20) none
 (.build 106 [.int .i64 0,.int .i64 0,.slice none 0 0] []),
 oq 21 (.mv (.tmp 10)),
 .mk none none (.store 3 (.tmp 6) (.tmp 20)),
 oq 7 (.mv (.tmp 21))]
 [6,7])
 .ret)
 .skip))
 (.seq
 (.seq
 (.region
 [oq 22 (.mv (.tmp 2)),
 oq 23 (.ibin .lss (.tmp 22) (.const (.int .i64 0))),
 oq 24 (.mv (.tmp 23)),
 .mk (some 25) (some (24,false)) (.mv (.tmp 2)),
 .mk (some 26) (some (24,false)) (.mv (.tmp 9)),
 .mk (some 27) (some (24,false)) (.ibin .geq (.tmp 25) (.tmp 26)),
 oq 28 (.pick (.tmp 24) (.const (.bool true)) (.tmp 27))]
 [1,2,3,6,8,28])
 (.cond (.tmp 28)
 (.seq
 (.region
 [.mk (some 29) none
 (.build 106 [.int .i64 0,.int .i64 0,.slice none 0 0] []),
 .mk none none (.store 3 (.tmp 6) (.tmp 29)),
 oq 7 (.mv (.const (.int .i64 5)))]
 [6,7])
 .ret)
 .skip))
 (.seq
 (.region
 [oq 30 (.mv (.tmp 8)),oq 31 (.fld 2 (.tmp 3)),
 oq 32 (.load false 1 (.tmp 31)),
 .mk (some 33) none
 (.build 39 [.bool false,.int .i64 0] [(1,1,.tmp 32)]),
 oq 34 (.mv (.tmp 1)),oq 35 (.mv (.tmp 2)),
 .mk (some 36) none
 (.call (.func 169) [.tmp 30,.tmp 33,.tmp 34,.tmp 35]),
 .mk none none (.store 3 (.tmp 6) (.tmp 36)),
 oq 7 (.mv (.const (.int .i64 0)))]
 [6,7])
 .ret))))
def S104 : FnS := ⟨37,[(6,some (true,3)),(7,none)],S104_0⟩
theorem tr104 : trFn Try.prog 104 [3,6] [[1,2,3,6],[1,2,3,6,8,9,10],[1,2,3,6,8,9,10,19],[6,7],[1,2,3,6,8,28],[6,7],[6,7]] = some S104 := by kernel_rfl
/- rank.Tree walked; no condition. -/
/-- what Tree answers -/
def RTreeR (g : Gr) (n i : Int) (v : Value) (Γ : Ctx) : Prop := (opE g n ≠ 0 ∧ Γ = [] ∧ v = .tuple #[.agg #[.int .i64 0, .int .i64 0, .slice none 0 0], .int .i64 (opE g n)]) ∨
 (opE g n = 0 ∧ ∃ m : Nat, n = m ∧ m ≤ 24 ∧ Fine g m ∧ (((i < 0 ∨ (cntT g (mostN g m) g.st m : Int) ≤ i) ∧ Γ = [] ∧ v = .tuple #[.agg #[.int .i64 0, .int .i64 0, .slice none 0 0], .int .i64 5]) ∨
   (∃ (k : Nat) (x : Tr) (gk : PH) (A : Option Addr) (c : Nat), i = k ∧ (lstT g (mostN g m) g.st m)[k]? = some x ∧ Γ = [gk] ∧ v = .tuple #[.agg #[.int .i64 x.rule, .int .i64 x.term, .slice A x.kids.length c], .int .i64 0] ∧ SlOk (lk [gk]) A c x.kids)))
theorem rank_tree {Γr : Ctx} {g : Gr} {R : Option Addr} {cR : Nat} (hx : SlOk (lk Γr) R cR g.rs) {n i : Int} (hn : -9223372036854775808 ≤ n ∧ n ≤ 9223372036854775807) :
  Ret Try.prog 104 [.agg #[.int .i64 g.ts, .int .i64 g.ns, .int .i64 g.st, .slice R g.rs.length cR], .int .i64 n, .int .i64 i] Γr [] (RTreeR g n i) := by
 generalize hR : RTreeR g n i = R'
 refine ret_of_vc tr104 (Nat.le_of_ble_eq_true rfl) ?_
 simp -implicitDefEqProofs only [S104, S104_0, go_sem,zA,zB,zC,zD,zE,reduceCtorEq,↓reduceIte,zF,zG,zH,zI]
 intro bg bt
 refine CallVC.read (Γ := []) (rank_open (Γr := [] ++ Γr) hx hn) ?_
 rintro v Γ' (⟨hne, rfl, rfl⟩ | ⟨h0, m, gb, gm, go, b, An, cn, bm, rfl, hm, F, rfl, rfl, hB, hM⟩)
 ·simp -implicitDefEqProofs only [go_sem,zA,zB,zC,zD,zE,reduceCtorEq,↓reduceIte,zF,zG,zH,zI]
  refine ⟨fun _ => Up.here ?_, fun h => absurd h hne⟩
  subst hR
  exact .inl ⟨hne, rfl, rfl⟩
 ·simp -implicitDefEqProofs only [go_sem,zA,zB,zC,zD,zE,reduceCtorEq,↓reduceIte,zF,zG,zH,zI]
  refine ⟨fun hbad => Up.to [] (Ent.nil _) ?_, fun hok => ?_⟩
  ·subst hR
   exact .inr ⟨h0, m, rfl, hm, F, .inl ⟨hbad, rfl, rfl⟩⟩
  ·obtain ⟨k, rfl⟩ : ∃ k : Nat, i = k := ⟨i.toNat, by omega⟩
   have hlen := lstT_len g (mostN g m) g.st m
   have hk : k < (lstT g (mostN g m) g.st m).length := by omega
   have hget : (symL (lstT g (mostN g m)) ⟨false, g.st⟩ m)[k]? = some (lstT g (mostN g m) g.st m)[k] := List.getElem?_eq_getElem hk
   have hget2 : (lstT g (mostN g m) g.st m)[k]? = some (lstT g (mostN g m) g.st m)[k] := List.getElem?_eq_getElem hk
   generalize (lstT g (mostN g m) g.st m)[k] = x at hget hget2
   refine CallVC.perm (Γm := [gm]) (Γf := [gb, go]) (book_tree F hm x hget (Nat.le_refl _) (fun _ => InS.self g g.st m) (Γr := [gb, go] ++ Γr) hB hM (fun i p k w r h => by simp [mget] at h)) (List.Perm.swap gm gb _) (List.Sublist.refl _) ?_
   rintro v Γ' ⟨gm', lst', gk, A, c, rfl, rfl, hS, hM', hK'⟩
   simp -implicitDefEqProofs only [go_sem,zA,zB,zC,zD,zE,reduceCtorEq,↓reduceIte,zF,zG,zH,zI]
   refine Up.sel [[1]] (by decide) fun _ _ => ?_
   subst hR
   exact .inr ⟨h0, m, rfl, hm, F, .inr ⟨k, x, gk, A, c, rfl, hget2, rfl, rfl, hS⟩⟩
/- Numbers of trees, symbols from the left: the plain law of the reference's rows; no condition. -/
/-- one symbol more behind -/
def convT (T : Int → Nat → Nat) (acc : Nat → Nat) (s : Sy) (k : Nat) : Nat := sumN (fun x => acc x * symT T s (k - x)) (k + 1)
def preT (T : Int → Nat → Nat) : (Nat → Nat) → List Sy → Nat → Nat
 | acc, [] => acc
 | acc, s :: l => preT T (convT T acc s) l
theorem preT_snoc (T : Int → Nat → Nat) (s : Sy) : ∀ (l : List Sy) (acc : Nat → Nat), preT T acc (l ++ [s]) = convT T (preT T acc l) s
 | [], acc => rfl
 | x :: l, acc => preT_snoc T s l (convT T acc x)
theorem preT_row (T : Int → Nat → Nat) : ∀ (l : List Sy) (acc : Nat → Nat) (k : Nat), preT T acc l k = sumN (fun x => acc x * rowT T l (k - x)) (k + 1)
 | [], acc, k => by
  show acc k = sumN (fun x => acc x * (if k - x = 0 then 1 else 0)) (k + 1)
  rw [sumN, Nat.sub_self, if_pos rfl, Nat.mul_one, sumN_congr (g := fun _ => 0) (fun x hx => by rw [if_neg (by omega), Nat.mul_zero]), sumN_zero, Nat.zero_add]
 | s :: l, acc, k => by
  rw [preT, preT_row T l (convT T acc s) k]
  have h1 : sumN (fun x => convT T acc s x * rowT T l (k - x)) (k + 1) = sumN (fun x => sumN (fun y => acc y * (symT T s (x - y) * rowT T l (k - y - (x - y)))) (x + 1)) (k + 1) := by
   refine sumN_congr fun x hx => ?_
   unfold convT
   rw [← sumN_mul]
   refine sumN_congr fun y hy => ?_
   rw [show k - y - (x - y) = k - x by omega, Nat.mul_assoc]
  have h2 := sumN_tri (fun y z => acc y * (symT T s z * rowT T l (k - y - z))) k
  rw [h1, h2]
  refine sumN_congr fun y hy => ?_
  rw [show rowT T (s :: l) (k - y) = sumN (fun j => symT T s j * rowT T l (k - y - j)) (k - y + 1) from rfl, ← sumN_mulL]
/-- one tree of no symbols -/
def oneT (k : Nat) : Nat := if k = 0 then 1 else 0
theorem preT_one (T : Int → Nat → Nat) (l : List Sy) (k : Nat) : preT T oneT l k = rowT T l k := by
 rw [preT_row, sumN_front, sumN_congr (g := fun _ => 0) (fun x _ => by simp [oneT]), sumN_zero]
 simp [oneT]
theorem convT_le {T T' : Int → Nat → Nat} (h : LeT T T') {acc acc' : Nat → Nat} (ha : ∀ k, acc k ≤ acc' k) (s : Sy) (k : Nat) : convT T acc s k ≤ convT T' acc' s k :=
 sumN_le fun x _ => Nat.mul_le_mul (ha x) (symT_le h s _)
theorem preT_le {T T' : Int → Nat → Nat} (h : LeT T T') : ∀ (l : List Sy) {acc acc' : Nat → Nat}, (∀ k, acc k ≤ acc' k) → ∀ k, preT T acc l k ≤ preT T' acc' l k
 | [], acc, acc', ha, k => ha k
 | s :: l, acc, acc', ha, k => preT_le h l (convT_le h ha s) k
/-- the part of a sum that is done when x and y stand in the loops of the reference's row: of k as many as doneX -/
def doneX (x y k : Nat) : Nat := if x ≤ k ∧ k < x + y then x + 1 else min x (k + 1)
theorem doneX_step {x y k : Nat} : doneX x (y + 1) k = if k = x + y then doneX x y k + 1 else doneX x y k := by
 unfold doneX
 by_cases e : k = x + y
 ·subst e
  rw [if_pos rfl, if_pos (by omega), if_neg (by omega)]
  omega
 ·rw [if_neg e]
  by_cases h : x ≤ k ∧ k < x + y
  ·rw [if_pos h, if_pos (by omega)]
  ·rw [if_neg h, if_neg (by omega)]
theorem doneX_at {x y : Nat} : doneX x y (x + y) = x := by
 unfold doneX
 rw [if_neg (by omega)]
 omega
theorem doneX_next {n x k : Nat} (hk : k ≤ n) : doneX x (n + 1 - x) k = doneX (x + 1) 0 k := by
 unfold doneX
 by_cases h : x ≤ k
 ·rw [if_pos (by omega), if_neg (by omega)]
  omega
 ·rw [if_neg (by omega), if_neg (by omega)]
  omega
theorem doneX_zero (k : Nat) : doneX 0 0 k = 0 := by simp [doneX]
theorem doneX_all {n k : Nat} (hk : k ≤ n) : doneX (n + 1) 0 k = k + 1 := by
 unfold doneX
 rw [if_neg (by omega)]
 omega
/- Which symbols have trees, by the lengths of words; lists of trees rule by rule: the plain law; no condition. -/
theorem cnt_has {g : Gr} : ∀ (h : Nat) {a : Int} {k : Nat}, 0 < cntT g h a k → HasD g a k
 | 0, a, k, hp => by simp [cntT] at hp
 | h + 1, a, k, hp => by
  obtain ⟨r, h1, h2, h3⟩ := sumR_pos.1 hp
  have row : ∀ (l : List Sy) (k : Nat), 0 < rowT (cntT g h) l k → LenD g l k := by
   intro l
   induction l with
   | nil =>
    intro k hk
    have : k = 0 := by
     simp only [rowT] at hk
     split at hk
     ·assumption
     ·omega
    rw [this]
    exact .nil
   | cons s l ih =>
    intro k hk
    obtain ⟨j, q1, q2, q3⟩ := row_pos.1 hk
    obtain ⟨st, sn⟩ := s
    cases st with
    | true =>
     have : j = 1 := by
      unfold symT at q2
      simp only [if_true] at q2
      split at q2
      ·assumption
      ·omega
     subst this
     have := LenD.term (n := sn) (ih _ q3)
     rwa [show 1 + (k - 1) = k by omega] at this
    | false =>
     obtain ⟨r', w1, w2, w3⟩ := cnt_has h (show 0 < cntT g h sn j from q2)
     have := LenD.non w1 w2 w3 (ih _ q3)
     rwa [show j + (k - j) = k by omega] at this
  exact ⟨r, h1, h2, row _ _ h3⟩
theorem len_cnt {g : Gr} {l : List Sy} {k : Nat} (h : LenD g l k) : ∃ x, 0 < rowT (cntT g x) l k := by
 induction h with
 | nil => exact ⟨0, by simp [rowT]⟩
 | @term n l k _ ih =>
  obtain ⟨x, hx⟩ := ih
  refine ⟨x, row_pos.2 ⟨1, by omega, by simp [symT], ?_⟩⟩
  rw [show 1 + k - 1 = k by omega]
  exact hx
 | @non a l r j k hr hl _ _ ih1 ih2 =>
  obtain ⟨x, hx⟩ := ih1
  obtain ⟨y, hy⟩ := ih2
  have h1 := rowT_le (cntT_le g (show x ≤ max x y by omega)) r.r j
  have h2 := rowT_le (cntT_le g (show y ≤ max x y + 1 by omega)) l k
  refine ⟨max x y + 1, row_pos.2 ⟨j, by omega, ?_, ?_⟩⟩
  ·show 0 < cntT g (max x y + 1) a j
   exact sumR_pos.2 ⟨r, hr, hl, by omega⟩
  ·rw [show j + k - j = k by omega]
   omega
theorem has_cnt {g : Gr} (V : VG g) {n : Nat} {a : Int} {k : Nat} (hk : k ≤ n) : HasD g a k ↔ 0 < cntT g (mostN g n) a k := by
 refine ⟨fun ⟨r, h1, h2, h3⟩ => ?_, cnt_has _⟩
 obtain ⟨x, hx⟩ := len_cnt h3
 exact cnt_pos V (x + 1) hk (sumR_pos.2 ⟨r, h1, h2, hx⟩)
/-- no trees at most levels, none at any -/
theorem sym_none {g : Gr} (V : VG g) {n : Nat} {s : Sy} {k : Nat} (hk : k ≤ n) (h : ¬ 0 < symT (cntT g (mostN g n)) s k) (x : Nat) : symL (lstT g x) s k = [] := by
 apply List.eq_nil_of_length_eq_zero
 rw [symL_len (lstT_len g x)]
 unfold symT at h ⊢
 split
 ·rename_i e
  rw [if_pos e] at h
  omega
 ·rename_i e
  rw [if_neg e] at h
  rcases Nat.eq_zero_or_pos (cntT g x s.n k) with q | q
  ·exact q
  ·exact absurd (cnt_pos V x hk q) h
theorem row_none {g : Gr} (V : VG g) {n : Nat} {l : List Sy} {k : Nat} (hk : k ≤ n) (h : ¬ 0 < rowT (cntT g (mostN g n)) l k) (x : Nat) : rowL (lstT g x) l k = [] := by
 apply List.eq_nil_of_length_eq_zero
 rw [rowL_len (lstT_len g x)]
 rcases Nat.eq_zero_or_pos (rowT (cntT g x) l k) with q | q
 ·exact q
 ·exact absurd (row_up (fun a k hk hp => cnt_pos V _ hk hp) l k hk q) h
theorem rulL_append (L : Int → Nat → List Tr) (a : Int) (k : Nat) : ∀ (xs ys : List Ru) (i : Nat), rulL L a k i (xs ++ ys) = rulL L a k i xs ++ rulL L a k (i + xs.length) ys
 | [], ys, i => by simp [rulL]
 | x :: xs, ys, i => by
  rw [List.cons_append, rulL, rulL, rulL_append L a k xs ys (i + 1), List.append_assoc, show i + 1 + xs.length = i + (x :: xs).length by simp; omega]
/-- the trees of so many rules -/
def rulsT (g : Gr) (L : Int → Nat → List Tr) (a : Int) (k i : Nat) : List Tr := rulL L a k 0 (g.rs.take i)
theorem rulsT_succ {g : Gr} (L : Int → Nat → List Tr) (a : Int) (k : Nat) {i : Nat} (hi : i < g.rs.length) : rulsT g L a k (i + 1) = rulsT g L a k i ++ (if g.rs[i].l = a then (rowL L g.rs[i].r k).map (fun ks => (⟨(i : Int), 0, ks⟩ : Tr)) else []) := by
 unfold rulsT
 rw [List.take_succ_eq_append_getElem hi, rulL_append]
 simp only [rulL, List.append_nil]
 have : (g.rs.take i).length = i := by simp; omega
 rw [this, Nat.zero_add]
theorem rulsT_all (g : Gr) (h : Nat) (a : Int) (k : Nat) : rulsT g (lstT g h) a k g.rs.length = lstT g (h + 1) a k := by
 unfold rulsT
 rw [List.take_length]
 rfl
/-- lists of trees whose first has fewer than j terminals -/
def rowsT (L : Int → Nat → List Tr) (s : Sy) (l : List Sy) (k j : Nat) : List (List Tr) := (List.range j).flatMap fun j => (symL L s j).flatMap fun x => (rowL L l (k - j)).map (x :: ·)
theorem rowsT_succ (L : Int → Nat → List Tr) (s : Sy) (l : List Sy) (k j : Nat) : rowsT L s l k (j + 1) = rowsT L s l k j ++ (symL L s j).flatMap fun x => (rowL L l (k - j)).map (x :: ·) := by
 unfold rowsT
 rw [List.range_succ, List.flatMap_append]
 simp
theorem rowsT_all (L : Int → Nat → List Tr) (s : Sy) (l : List Sy) (k : Nat) : rowsT L s l k (k + 1) = rowL L (s :: l) k := rfl
/- The text of (*parlance/parlref5.lister).fits as a statement; no condition. -/
def S199_1 : Stmt :=
 .seq
 (.seq
 (.region
 [oq 35 (.mv (.tmp 12)),oq 36 (.mv (.tmp 35)),
 .mk (some 37) (some (36,true)) (.mv (.tmp 11)),
 .mk (some 38) (some (36,true)) (.mv (.tmp 13)),
 .mk (some 39) (some (36,true)) (.ibin .add (.tmp 37) (.tmp 38)),
 .mk (some 40) (some (36,true)) (.mv (.tmp 2)),
 .mk (some 41) (some (36,true)) (.ibin .leq (.tmp 39) (.tmp 40)),
 oq 42 (.pick (.tmp 36) (.tmp 41) (.const (.bool false)))]
 [0,2,9,10,11,12,13,19,20,21,28,29,30,42])
 (.cond (.tmp 42) .skip (.exit 4)))
 (.seq
 (.block 5
 (.drawn
 [(false,oq 45 (.mv (.tmp 10))),
 (false,oq 46 (.mv (.tmp 11))),
 (false,oq 47 (.mv (.tmp 13))),
 (false,oq 48 (.ibin .add (.tmp 46) (.tmp 47))),
 (false,oq 49 (.mv (.tmp 10))),
 (false,oq 50 (.mv (.tmp 11))),
 (false,oq 51 (.mv (.tmp 13))),
 (false,oq 52 (.ibin .add (.tmp 50) (.tmp 51))),
 (false,oq 53 (.idx 1 (.tmp 49) (.tmp 52))),
 (false,oq 54 (.load false 1 (.tmp 53))),
 (false,oq 55 (.mv (.tmp 54))),
 (false,.mk (some 56) (some (55,false)) (.fld 0 (.tmp 9))),
 (false,.mk (some 57) (some (55,false)) (.load false 1 (.tmp 56))),
 (false,.mk (some 58) (some (55,false)) (.mv (.tmp 57))),
 (false,.mk (some 59) (some (58,true)) (.mv (.tmp 13))),
 (false,
 .mk (some 60) (some (58,true))
 (.ibin .eql (.tmp 59) (.const (.int .i64 1)))),
 (false,
 .mk (some 61) (some (55,false))
 (.pick (.tmp 58) (.tmp 60) (.const (.bool false)))),
 (false,
 oq 62 (.pick (.tmp 55) (.const (.bool true)) (.tmp 61))),
 (false,oq 63 (.mv (.tmp 62))),
 (false,.mk (some 64) (some (63,false)) (.fld 0 (.tmp 9))),
 (false,.mk (some 65) (some (63,false)) (.load false 1 (.tmp 64))),
 (false,.mk (some 66) (some (63,false)) (.un .not (.tmp 65))),
 (false,.mk (some 67) (some (63,false)) (.mv (.tmp 66))),
 (false,.mk (some 68) (some (67,true)) (.mv (.tmp 0))),
 (false,.mk (some 69) (some (67,true)) (.nilCheck (.tmp 68))),
 (false,.mk (some 70) (some (67,true)) (.fld 4 (.tmp 69))),
 (false,.mk (some 71) (some (67,true)) (.load false 1 (.tmp 70))),
 (false,.mk (some 72) (some (67,true)) (.fld 1 (.tmp 9))),
 (false,.mk (some 73) (some (67,true)) (.load false 1 (.tmp 72))),
 (false,.mk (some 74) (some (67,true)) (.idx 1 (.tmp 71) (.tmp 73))),
 (false,.mk (some 75) (some (67,true)) (.load false 1 (.tmp 74))),
 (false,.mk (some 76) (some (67,true)) (.mv (.tmp 13))),
 (false,.mk (some 77) (some (67,true)) (.idx 1 (.tmp 75) (.tmp 76))),
 (false,.mk (some 78) (some (67,true)) (.load false 1 (.tmp 77))),
 (false,
 .mk (some 79) (some (63,false))
 (.pick (.tmp 67) (.tmp 78) (.const (.bool false)))),
 (false,
 oq 80 (.pick (.tmp 63) (.const (.bool true)) (.tmp 79))),
 (false,oq 81 (.idx 1 (.tmp 45) (.tmp 48))),
 (false,.mk none none (.store 1 (.tmp 81) (.tmp 80)))]
 [0,2,9,10,11,12,13,19,20,21,28,29,30]))
 (.region
 [oq 43 (.mv (.tmp 13)),
 oq 44 (.ibin .add (.tmp 43) (.const (.int .i64 1))),
 oq 13 (.mv (.tmp 44))]
 [0,2,9,10,11,12,13,19,20,21,28,29,30]))
def S199_2 : Stmt :=
 .seq
 (.region [oq 31 (.ibin .lss (.tmp 30) (.tmp 29))]
 [0,2,9,10,19,20,21,28,29,30,31])
 (.seq (.cond (.tmp 31) .skip (.exit 2))
 (.seq
 (.block 3
 (.seq
 (.region
 [oq 32 (.mv (.tmp 30)),
 oq 33 (.idx 1 (.tmp 28) (.tmp 30)),
 oq 34 (.load false 1 (.tmp 33)),
 oq 11 (.mv (.tmp 32)),oq 12 (.mv (.tmp 34))]
 [0,2,9,10,11,12,19,20,21,28,29,30])
 (.seq
 (.region [oq 13 (.mv (.const (.int .i64 0)))]
 [0,2,9,10,11,12,13,19,20,21,28,29,30])
 (.block 4 (.loop S199_1 [13] [0,2,9,10,11,12,19,20,21,28,29,30])))))
 (.region
 [oq 82 (.ibin .add (.tmp 30) (.const (.int .i64 1))),
 oq 30 (.mv (.tmp 82))]
 [0,2,9,10,19,20,21,28,29,30])))
def S199_3 : Stmt :=
 .seq
 (.region [oq 22 (.ibin .lss (.tmp 21) (.tmp 20))]
 [0,2,7,19,20,21,22])
 (.seq (.cond (.tmp 22) .skip (.exit 0))
 (.seq
 (.block 1
 (.seq
 (.region
 [oq 23 (.idx 2 (.tmp 19) (.tmp 21)),
 oq 24 (.load true 2 (.tmp 23)),
 .mk (some 9) none
 (.alloc true 39 (.agg (Array.mk [.bool false,.int .i64 0]))),
 .mk none none (.store 2 (.tmp 9) (.tmp 24))]
 [0,2,7,9,19,20,21])
 (.seq
 (.region
 [oq 25 (.mv (.tmp 2)),
 oq 26 (.ibin .add (.tmp 25) (.const (.int .i64 1))),
 oq 27 (.mk 4 1 1 (.bool false) (.tmp 26) (.tmp 26)),
 oq 10 (.mv (.tmp 27))]
 [0,2,7,9,10,19,20,21])
 (.seq
 (.seq
 (.region
 [oq 28 (.mv (.tmp 7)),
 oq 29 (.len false (.tmp 28)),
 oq 30 (.mv (.const (.int .i64 0)))]
 [0,2,9,10,19,20,21,28,29,30])
 (.block 2 (.loop S199_2 [30] [0,2,9,10,19,20,21,28,29])))
 (.region
 [oq 83 (.mv (.tmp 10)),oq 7 (.mv (.tmp 83))]
 [0,2,7,19,20,21])))))
 (.region
 [oq 84 (.ibin .add (.tmp 21) (.const (.int .i64 1))),
 oq 21 (.mv (.tmp 84))]
 [0,2,7,19,20,21])))
def S199_0 : Stmt :=
 .seq (.region [oq 6 (.mv (.const (.bool false)))] [0,1,2])
 (.seq
 (.region
 [oq 14 (.mv (.tmp 2)),
 oq 15 (.ibin .add (.tmp 14) (.const (.int .i64 1))),
 oq 16 (.mk 4 1 1 (.bool false) (.tmp 15) (.tmp 15)),
 oq 7 (.mv (.tmp 16))]
 [0,1,2,7])
 (.seq
 (.region
 [oq 17 (.mv (.tmp 7)),
 oq 18 (.idx 1 (.tmp 17) (.const (.int .i64 0))),
 .mk none none (.store 1 (.tmp 18) (.const (.bool true)))]
 [0,1,2,7])
 (.seq
 (.seq
 (.region
 [oq 19 (.mv (.tmp 1)),oq 20 (.len false (.tmp 19)),
 oq 21 (.mv (.const (.int .i64 0)))]
 [0,2,7,19,20,21])
 (.block 0 (.loop S199_3 [7,21] [0,2,19,20])))
 (.seq
 (.region
 [oq 85 (.mv (.tmp 7)),oq 86 (.mv (.tmp 2)),
 oq 87 (.idx 1 (.tmp 85) (.tmp 86)),
 oq 88 (.load false 1 (.tmp 87)),
 oq 6 (.mv (.tmp 88))]
 [6])
 .ret))))
def S199 : FnS := ⟨89,[(6,none)],S199_0⟩
theorem tr199 : trFn Try.prog 199 [9] [[0,1,2],[0,1,2,7],[0,1,2,7],[0,2,7,19,20,21],[7,21],[0,2,19,20],[0,2,7,19,20,21,22],[0,2,7,9,19,20,21],[0,2,7,9,10,19,20,21],[0,2,9,10,19,20,21,28,29,30],[30],[0,2,9,10,19,20,21,28,29],[0,2,9,10,19,20,21,28,29,30,31],[0,2,9,10,11,12,19,20,21,28,29,30],[0,2,9,10,11,12,13,19,20,21,28,29,30],[13],[0,2,9,10,11,12,19,20,21,28,29,30],[0,2,9,10,11,12,13,19,20,21,28,29,30,42],[0,2,9,10,11,12,13,19,20,21,28,29,30],[0,1,2,3,4,5,6,7,8,9,10,11,12,13,14,15,16,17,18,19,20,21,22,23,24,25,26,27,28,29,30,31,32,33,34,35,36,37],[],[],[],[],[1,2],[],[],[],[5,6],[4,5,6,7],[4,5,6,7,8],[4,5,6,7,8,9],[4,5,6,7,8,9,10],[4,5,6,7,8,9,10,11],[4,5,6,7,8,9,10,11,12],[4,5,6,7,8,9,10,11,12,13],[4,5,6,7,8,9,10,11,12,13,14],[4,5,6,7,8,9,10,11,12,13,14,15],[4,5,6,7,8,9,10,11,12,13,14,15,16],[4,5,6,7,8,9,10,11,12,13,14,15,16,17],[4,5,6,7,8,9,10,11,12,13,14,15,16,17,18],[4,5,6,7,8,9,10,11,12,13,14,15,16,17,18,19],[4,5,6,7,8,9,10,11,12,13,14,15,16,17,18,19,20],[4,5,6,7,8,9,10,11,12,13,14,15,16,17,18,19,20,21],[4,5,6,7,8,9,10,11,12,13,14,15,16,17,18,19,20,21,22],[4,5,6,7,8,9,10,11,12,13,14,15,16,17,18,19,20,21,22,23],[4,5,6,7,8,9,10,11,12,13,14,15,16,17,18,19,20,21,22,23,24],[4,5,6,7,8,9,10,11,12,13,14,15,16,17,18,19,20,21,22,23,24,25],[4,5,6,7,8,9,10,11,12,13,14,15,16,17,18,19,20,21,22],[4,5,6,7,8,9,10,11,12,13,14,15,16,17,18,19,20,21,22,27],[4,5,6,7,8,9,10,11,12,13,14,15,16,17,18,19,20,21,22,23,24,25,26,27,28],[4,5,6,7,8,9,10,11,12,13,14,15,16,17,18,19,20,21,22,23,24,25,26,27,28,29],[4,5,6,7,8,9,10,11,12,13,14,15,16,17,18,19,20,21,22],[4,5,6,7,8,9,10,11,12,13,14,15,16,17,18,19,20,21,22,23,24,25,26,27,28,29,30,31],[4,5,6,7,8,9,10,11,12,13,14,15,16,17,18,19,20,21,22,23,24,25,26,27,28,29,30,31,32],[4,5,6,7,8,9,10,11,12,13,14,15,16,17,18,19,20,21,22,23,24,25,26,27,28,29,30,31,32,33],[4,5,6,7,8,9,10,11,12,13,14,15,16,17,18,19,20,21,22,23,24,25,26,27,28,29,30,31,32,33,34],[0,1,2,3,4,5,6,7,8,9,10,11,12,13,14,15,16,17,18,19,20,21,22,23,24,25,26,27,28,29,30,31,32,33,34,35],[0,1,2,3,4,5,6,7,8,9,10,11,12,13,14,15,16,17,18,19,20,21,22,23,24,25,26,27,28,29,30,31,32,33,34,35,36],[0,2,9,10,11,12,13,19,20,21,28,29,30],[0,2,9,10,19,20,21,28,29,30],[0,2,7,19,20,21],[0,2,7,19,20,21],[6]] = some S199 := by kernel_rfl
end Go.Proofs.Ytniobbepliknmaa.V
