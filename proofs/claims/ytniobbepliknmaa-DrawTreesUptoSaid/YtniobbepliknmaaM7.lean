/- Texts put together, in the order in which they build; each says what it proves; no condition. -/
import Derived.Test.YtniobbepliknmaaM4
import Derived.Test.YtniobbepliknmaaM6
import Derived.Test.YtniobbepliknmaaM2
import Derived.Test.YtniobbepliknmaaProg
import Derived.Test.YtniobbepliknmaaM5
namespace Go.Proofs.Ytniobbepliknmaa.V
open Go
set_option linter.unusedVariables false
set_option linter.unusedSimpArgs false
/- What lies in trees of the start symbol of which there are not too many: the plain law; no condition. -/
def InS (g : Gr) (c : Int) (n : Nat) (b : Int) (j : Nat) : Prop := ∃ d, ∀ h, cntT g h b j ≤ cntT g (h + d) c n
def InR (g : Gr) (c : Int) (n : Nat) (l : List Sy) (k : Nat) : Prop := ∃ d, ∀ h, rowT (cntT g h) l k ≤ cntT g (h + d) c n
theorem InS.self (g : Gr) (c : Int) (n : Nat) : InS g c n c n := ⟨0, fun _ => Nat.le_refl _⟩
theorem row_sumR {T : Int → Nat → Nat} {a : Int} {k : Nat} {r : Ru} (hl : r.l = a) : ∀ {rs : List Ru}, r ∈ rs → rowT T r.r k ≤ sumR T a k rs
  | [], h => by simp at h
  | x :: rs, h => by
    rw [sumR]
    rcases List.mem_cons.1 h with e | e
    · subst e
      rw [if_pos hl]
      omega
    · have := row_sumR (T := T) (k := k) hl e
      omega
theorem sumN_term (f : Nat → Nat) {j : Nat} : ∀ {n : Nat}, j < n → f j ≤ sumN f n
  | 0, h => by omega
  | n + 1, h => by
    rw [sumN]
    rcases Nat.lt_or_ge j n with q | q
    · have := sumN_term f q
      omega
    · have : j = n := by omega
      subst this
      omega
theorem row_first (T : Int → Nat → Nat) (s : Sy) (l : List Sy) {j k : Nat} (hj : j ≤ k) : symT T s j * rowT T l (k - j) ≤ rowT T (s :: l) k :=
  sumN_term (fun j => symT T s j * rowT T l (k - j)) (Nat.lt_succ_of_le hj)
theorem InS.rule {g : Gr} {c : Int} {n : Nat} {a : Int} {k : Nat} (h : InS g c n a k) {r : Ru} (hr : r ∈ g.rs) (hl : r.l = a) : InR g c n r.r k := by
  obtain ⟨d, h⟩ := h
  refine ⟨d + 1, fun x => ?_⟩
  have h1 := h (x + 1)
  have h2 : rowT (cntT g x) r.r k ≤ cntT g (x + 1) a k := row_sumR hl hr
  rw [show x + (d + 1) = x + 1 + d by omega]
  omega
theorem InR.rest {g : Gr} {c : Int} {n M : Nat} {s : Sy} {l : List Sy} {j k : Nat} (h : InR g c n (s :: l) k) (hj : j ≤ k) (hp : 0 < symT (cntT g M) s j) : InR g c n l (k - j) := by
  obtain ⟨d, h⟩ := h
  refine ⟨M + d, fun x => ?_⟩
  have h1 := h (x + M)
  have h2 := row_first (cntT g (x + M)) s l hj
  have h3 := rowT_le (cntT_le g (show x ≤ x + M by omega)) l (k - j)
  have h4 := symT_le (cntT_le g (show M ≤ x + M by omega)) s j
  have h5 : rowT (cntT g (x + M)) l (k - j) ≤ symT (cntT g (x + M)) s j * rowT (cntT g (x + M)) l (k - j) := Nat.le_mul_of_pos_left _ (by omega)
  rw [show x + (M + d) = x + M + d by omega]
  omega
theorem InR.sym {g : Gr} {c : Int} {n M : Nat} {s : Sy} {l : List Sy} {j k : Nat} (h : InR g c n (s :: l) k) (hj : j ≤ k) (hs : s.t = false) (hp : 0 < rowT (cntT g M) l (k - j)) : InS g c n s.n j := by
  obtain ⟨d, h⟩ := h
  refine ⟨M + d, fun x => ?_⟩
  have h1 := h (x + M)
  have h2 := row_first (cntT g (x + M)) s l hj
  have h3 := rowT_le (cntT_le g (show M ≤ x + M by omega)) l (k - j)
  have h4 := symT_le (cntT_le g (show x ≤ x + M by omega)) s j
  have h5 : symT (cntT g (x + M)) s j ≤ symT (cntT g (x + M)) s j * rowT (cntT g (x + M)) l (k - j) := Nat.le_mul_of_pos_right _ (by omega)
  have h6 : symT (cntT g x) s j = cntT g x s.n j := by unfold symT; rw [if_neg (by rw [hs]; simp)]
  rw [show x + (M + d) = x + M + d by omega]
  omega
/-- not too many trees of the start symbol -/
structure Fine (g : Gr) (n : Nat) : Prop where
  V : VG g
  top : ∀ h, cntT g h g.st n ≤ cntT g (mostN g n) g.st n
  few : cntT g (mostN g n) g.st n < 1000000000
theorem fine_of {g : Gr} (V : VG g) {n a : Nat} (ha : g.st = (a : Int)) (h1 : cenF g n a n ≠ -1) (h2 : cenF g n a n ≠ 1000000000) : Fine g n ∧ cenF g n a n = (cntT g (mostN g n) g.st n : Nat) := by
  have S := loop_ex g n
  have hi := S.iff V (a := g.st) (k := n) (Nat.le_refl _)
  unfold cenF at h1 h2 ⊢
  rw [← ha] at h1 h2 ⊢
  by_cases e : cntT g (mostN g n) g.st n < cntT g (2 * mostN g n + 2) g.st n
  · rw [if_pos e] at h1
    exact absurd rfl h1
  · rw [if_neg e] at h2 ⊢
    have hL : ¬ LpC g n g.st n := fun q => e (hi.1 q)
    have h3 : cntT g (mostN g n) g.st n < 1000000000 := by
      unfold capN at h2
      omega
    refine ⟨⟨V, fun h => ?_, h3⟩, by unfold capN; omega⟩
    rcases Nat.lt_or_ge h (mostN g n) with q | q
    · exact cntT_le g (Nat.le_of_lt q) _ _
    · rw [S.stays V (Nat.le_refl _) hL q]
      exact Nat.le_refl _
theorem InS.free {g : Gr} {n : Nat} (F : Fine g n) {b : Int} {j : Nat} (hj : j ≤ n) (h : InS g g.st n b j) : ¬ LpC g n b j := by
  intro hL
  have S := loop_ex g n
  obtain ⟨d, h⟩ := h
  have hg : ∀ t, t ≤ cntT g (mostN g n * t) b j := by
    intro t
    induction t with
    | zero => exact Nat.zero_le _
    | succ t ih =>
      have := S.grow F.V (mostN g n * t) b j hj hL
      rw [show mostN g n * (t + 1) = mostN g n + mostN g n * t by rw [Nat.mul_add]; omega]
      omega
  have h1 := hg (cntT g (mostN g n) g.st n + 1)
  have h2 := h (mostN g n * (cntT g (mostN g n) g.st n + 1))
  have h3 := F.top (mostN g n * (cntT g (mostN g n) g.st n + 1) + d)
  omega
theorem InS.fin {g : Gr} {n : Nat} (F : Fine g n) {b : Int} {j : Nat} (hj : j ≤ n) (h : InS g g.st n b j) : FinT g (mostN g n) b j := fun x hx => (loop_ex g n).stays F.V hj (h.free F hj) hx
theorem InS.few {g : Gr} {n : Nat} (F : Fine g n) {b : Int} {j : Nat} (h : InS g g.st n b j) (x : Nat) : cntT g x b j < 1000000000 := by
  obtain ⟨d, h⟩ := h
  have h1 := h x
  have h2 := F.top (x + d)
  have h3 := F.few
  omega
theorem InR.few {g : Gr} {n : Nat} (F : Fine g n) {l : List Sy} {k : Nat} (h : InR g g.st n l k) (x : Nat) : rowT (cntT g x) l k < 1000000000 := by
  obtain ⟨d, h⟩ := h
  have h1 := h x
  have h2 := F.top (x + d)
  have h3 := F.few
  omega
theorem InS.cen {g : Gr} {n : Nat} (F : Fine g n) {b j : Nat} (hj : j ≤ n) (h : InS g g.st n (b : Int) j) : cenF g n b j = (cntT g (mostN g n) (b : Int) j : Nat) := by
  have h1 := h.fin F hj (2 * mostN g n + 2) (by omega)
  have h2 := h.few F (mostN g n)
  unfold cenF
  rw [if_neg (by omega)]
  unfold capN
  omega
theorem cenF_zero {g : Gr} (V : VG g) {n b j : Nat} (hj : j ≤ n) : cenF g n b j = 0 ↔ cntT g (mostN g n) (b : Int) j = 0 := by
  have h0 := cnt_pos V (n := n) (2 * mostN g n + 2) (a := (b : Int)) hj
  unfold cenF
  split
  · refine ⟨fun h => by omega, fun h => by have := h0 (by omega); omega⟩
  · unfold capN
    omega
end Go.Proofs.Ytniobbepliknmaa.V
/- The text of (*parlance/rank.book).sym as a statement (slots: 0 b, 1 s, 2 k, 3 b, 4 s, 5 k); no condition. -/
namespace Go.Proofs.Ytniobbepliknmaa.V
open Go
def S212_0 : Stmt :=
 .seq
 (.region
 [.mk (some 4) none (.box true 39 (.tmp 1)),
 .mk (some 6) none (.mv (.const (.int .i64 0)))]
 [0,2,4])
 (.seq
 (.seq
 (.region
 [.mk (some 7) none (.fld 0 (.tmp 4)),.mk (some 8) none (.load false 1 (.tmp 7)),
 .mk (some 9) none (.un .not (.tmp 8))]
 [0,2,4,9])
 (.cond (.tmp 9)
 (.seq
 (.quiet
 [.mk (some 10) none (.mv (.tmp 0)),.mk (some 11) none (.nilCheck (.tmp 10)),
 .mk (some 12) none (.fld 4 (.tmp 11)),
 .mk (some 13) none (.load false 1 (.tmp 12)),
 .mk (some 14) none (.fld 1 (.tmp 4)),
 .mk (some 15) none (.load false 1 (.tmp 14)),
 .mk (some 16) none (.idx 1 (.tmp 13) (.tmp 15)),
 .mk (some 17) none (.load false 1 (.tmp 16)),
 .mk (some 18) none (.mv (.tmp 2)),
 .mk (some 19) none (.idx 1 (.tmp 17) (.tmp 18)),
 .mk (some 20) none (.load false 1 (.tmp 19)),
 .mk (some 6) none (.mv (.tmp 20))]
 [6])
 .ret)
 .skip))
 (.seq
 (.seq
 (.region
 [.mk (some 21) none (.mv (.tmp 2)),
 .mk (some 22) none (.ibin .eql (.tmp 21) (.const (.int .i64 1)))]
 [22])
 (.cond (.tmp 22)
 (.seq (.region [.mk (some 6) none (.mv (.const (.int .i64 1)))] [6])
 .ret)
 .skip))
 (.seq (.region [.mk (some 6) none (.mv (.const (.int .i64 0)))] [6])
 .ret)))
def S212 : FnS := ⟨23,[(6,none)],S212_0⟩
theorem tr212 : trFn Try.prog 212 [4] [[0,2,4],[0,2,4,9],[6],[22],[6],[6]] = some S212 := by kernel_rfl
end Go.Proofs.Ytniobbepliknmaa.V
/- The text of (*parlance/rank.book).part as a statement (slots: 0 b, 1 i, 2 p, 3 j, 4 k, 5 b, 6 i, 7 p, 8 j, 9 k, 11 n); no condition. -/
namespace Go.Proofs.Ytniobbepliknmaa.V
open Go
def S211_0 : Stmt :=
 .seq (.region [.mk (some 10) none (.mv (.const (.int .i64 0)))] [0,1,2,3,4])
 (.seq
 (.region
 [.mk (some 12) none (.mv (.tmp 0)),.mk (some 13) none (.mv (.tmp 0)),
 .mk (some 14) none (.nilCheck (.tmp 13)),.mk (some 15) none (.fld 0 (.tmp 14)),
 .mk (some 16) none (.fld 3 (.tmp 15)),
 .mk (some 17) none (.load false 1 (.tmp 16)),.mk (some 18) none (.mv (.tmp 1)),
 .mk (some 19) none (.idx 2 (.tmp 17) (.tmp 18)),
 .mk (some 20) none (.fld 1 (.tmp 19)),
 .mk (some 21) none (.load false 1 (.tmp 20)),.mk (some 22) none (.mv (.tmp 2)),
 .mk (some 23) none (.idx 2 (.tmp 21) (.tmp 22)),
 .mk (some 24) none (.load true 2 (.tmp 23)),.mk (some 25) none (.mv (.tmp 3)),
 .mk (some 26) none (.call (.func 212) [.tmp 12,.tmp 24,.tmp 25]),
 .mk (some 11) none (.mv (.tmp 26))]
 [0,1,2,3,4,11])
 (.seq
 (.seq
 (.region
 [.mk (some 27) none (.mv (.tmp 11)),
 .mk (some 28) none (.ibin .eql (.tmp 27) (.const (.int .i64 0)))]
 [0,1,2,3,4,11,28])
 (.cond (.tmp 28)
 (.seq (.region [.mk (some 10) none (.mv (.const (.int .i64 0)))] [10])
 .ret)
 .skip))
 (.seq
 (.region
 [.mk (some 29) none (.mv (.tmp 11)),.mk (some 30) none (.mv (.tmp 0)),
 .mk (some 31) none (.mv (.tmp 1)),.mk (some 32) none (.mv (.tmp 2)),
 .mk (some 33) none (.ibin .add (.tmp 32) (.const (.int .i64 1))),
 .mk (some 34) none (.mv (.tmp 4)),.mk (some 35) none (.mv (.tmp 3)),
 .mk (some 36) none (.ibin .sub (.tmp 34) (.tmp 35)),
 .mk (some 37) none
 (.call (.func 197) [.tmp 30,.tmp 31,.tmp 33,.tmp 36]),
 .mk (some 38) none (.ibin .mul (.tmp 29) (.tmp 37)),
 .mk (some 10) none (.mv (.tmp 38))]
 [10])
 .ret)))
def S211 : FnS := ⟨39,[(10,none)],S211_0⟩
theorem tr211 : trFn Try.prog 211 [] [[0,1,2,3,4],[0,1,2,3,4,11],[0,1,2,3,4,11,28],[10],[10]] = some S211 := by kernel_rfl
end Go.Proofs.Ytniobbepliknmaa.V
/- The text of (*parlance/rank.book).ways as a statement (slots: 0 b, 1 i, 2 p, 3 k, 4 b, 5 i, 6 p, 7 k, 9 l, 10 at, 11 n, 12 ok, 13 sum, 14 j); no condition. -/
namespace Go.Proofs.Ytniobbepliknmaa.V
open Go
def S197_1 : Stmt :=
 .seq
 (.region [.mk (some 48) none (.ibin .lss (.tmp 47) (.tmp 46))]
 [0,1,2,3,10,13,46,47,48])
 (.seq (.cond (.tmp 48) .skip (.exit 0))
 (.seq
 (.block 1
 (.seq
 (.region
 [.mk (some 49) none (.mv (.tmp 47)),.mk (some 14) none (.mv (.tmp 49))]
 [0,1,2,3,10,13,14,46,47])
 (.region
 [.mk (some 50) none (.mv (.tmp 13)),.mk (some 51) none (.mv (.tmp 0)),
 .mk (some 52) none (.mv (.tmp 1)),.mk (some 53) none (.mv (.tmp 2)),
 .mk (some 54) none (.mv (.tmp 14)),.mk (some 55) none (.mv (.tmp 3)),
 .mk (some 56) none
 (.call (.func 211)
 [.tmp 51,.tmp 52,.tmp 53,.tmp 54,.tmp 55]),
 .mk (some 57) none (.ibin .add (.tmp 50) (.tmp 56)),
 .mk (some 13) none (.mv (.tmp 57))]
 [0,1,2,3,10,13,46,47])))
 (.region
 [.mk (some 58) none (.ibin .add (.tmp 47) (.const (.int .i64 1))),
 .mk (some 47) none (.mv (.tmp 58))]
 [0,1,2,3,10,13,46,47])))
def S197_0 : Stmt :=
 .seq (.region [.mk (some 8) none (.mv (.const (.int .i64 0)))] [0,1,2,3])
 (.seq
 (.region
 [.mk (some 15) none (.mv (.tmp 0)),.mk (some 16) none (.nilCheck (.tmp 15)),
 .mk (some 17) none (.fld 0 (.tmp 16)),.mk (some 18) none (.fld 3 (.tmp 17)),
 .mk (some 19) none (.load false 1 (.tmp 18)),.mk (some 20) none (.mv (.tmp 1)),
 .mk (some 21) none (.idx 2 (.tmp 19) (.tmp 20)),
 .mk (some 22) none (.fld 1 (.tmp 21)),
 .mk (some 23) none (.load false 1 (.tmp 22)),.mk (some 9) none (.mv (.tmp 23))]
 [0,1,2,3,9])
 (.seq
 (.seq
 (.region
 [.mk (some 24) none (.mv (.tmp 2)),.mk (some 25) none (.mv (.tmp 9)),
 .mk (some 26) none (.len false (.tmp 25)),
 .mk (some 27) none (.ibin .eql (.tmp 24) (.tmp 26))]
 [0,1,2,3,27])
 (.cond (.tmp 27)
 (.seq
 (.seq
 (.region
 [.mk (some 28) none (.mv (.tmp 3)),
 .mk (some 29) none
 (.ibin .eql (.tmp 28) (.const (.int .i64 0)))]
 [29])
 (.cond (.tmp 29)
 (.seq (.region [.mk (some 8) none (.mv (.const (.int .i64 1)))] [8])
 .ret)
 .skip))
 (.seq (.region [.mk (some 8) none (.mv (.const (.int .i64 0)))] [8])
 .ret))
 .skip))
 (.seq
 (.region
 [.mk (some 30) none (.mv (.tmp 1)),.mk (some 31) none (.mv (.tmp 2)),
 .mk (some 32) none (.mv (.tmp 3)),
 .mk (some 33) none
 (.build 294 [.int .i64 0,.int .i64 0,.int .i64 0]
 [(0,1,.tmp 30),(1,1,.tmp 31),(2,1,.tmp 32)]),
 .mk (some 10) none
 (.alloc true 294
 (.agg (Array.mk [.int .i64 0,.int .i64 0,.int .i64 0]))),
 .mk none none (.store 3 (.tmp 10) (.tmp 33))]
 [0,1,2,3,10])
 (.seq
 (.seq
 (.quiet
 [.mk (some 35) none (.mv (.tmp 0)),
 .mk (some 36) none (.nilCheck (.tmp 35)),
 .mk (some 37) none (.fld 5 (.tmp 36)),
 .mk (some 38) none (.load false 1 (.tmp 37)),
 .mk (some 39) none (.load true 3 (.tmp 10)),
 .mk (some 40) none (.q (Qk.look 266 true) [.tmp 38,.tmp 39]),
 .mk (some 34) none (.mv (.tmp 40)),
 .mk (some 41) none (.extract 0 (.tmp 34)),
 .mk (some 42) none (.extract 1 (.tmp 34)),
 .mk (some 11) none (.mv (.tmp 41)),.mk (some 12) none (.mv (.tmp 42))]
 [0,1,2,3,10,11,12])
 (.seq (.region [.mk (some 43) none (.mv (.tmp 12))] [0,1,2,3,10,11,43])
 (.cond (.tmp 43)
 (.seq
 (.region
 [.mk (some 44) none (.mv (.tmp 11)),
 .mk (some 8) none (.mv (.tmp 44))]
 [8])
 .ret)
 .skip)))
 (.seq
 (.region [.mk (some 13) none (.mv (.const (.int .i64 0)))]
 [0,1,2,3,10,13])
 (.seq
 (.seq
 (.region
 [.mk (some 45) none (.mv (.tmp 3)),
 .mk (some 46) none
 (.ibin .add (.tmp 45) (.const (.int .i64 1))),
 .mk (some 47) none (.mv (.const (.int .i64 0)))]
 [0,1,2,3,10,13,46,47])
 (.block 0 (.loop S197_1 [13,47] [0,1,2,3,10,46])))
 (.seq
 (.drawn
 [(false,.mk (some 59) none (.mv (.tmp 0))),
 (false,.mk (some 60) none (.nilCheck (.tmp 59))),
 (false,.mk (some 61) none (.fld 5 (.tmp 60))),
 (false,.mk (some 62) none (.load false 1 (.tmp 61))),
 (false,.mk (some 63) none (.load true 3 (.tmp 10))),
 (false,.mk (some 64) none (.mv (.tmp 13))),
 (false,.mk none none (.a (Qk.upd 266) [.tmp 62,.tmp 63,.tmp 64]))]
 [13])
 (.seq
 (.region
 [.mk (some 65) none (.mv (.tmp 13)),
 .mk (some 8) none (.mv (.tmp 65))]
 [8])
 .ret))))))))
def S197 : FnS := ⟨66,[(8,none)],S197_0⟩
theorem tr197 : trFn Try.prog 197 [10] [[0,1,2,3],[0,1,2,3,9],[0,1,2,3,27],[29],[8],[8],[0,1,2,3,10],[0,1,2,3,10,11,12],[0,1,2,3,10,11,43],[8],[0,1,2,3,10,13],[0,1,2,3,10,13,46,47],[13,47],[0,1,2,3,10,46],[0,1,2,3,10,13,46,47,48],[0,1,2,3,10,13,14,46,47],[0,1,2,3,10,13,46,47],[0,1,2,3,10,13,46,47],[13],[0,1,2,3,4,5,6],[],[],[0],[0,1],[0,1,2],[],[],[0,1,2,3,4,5],[8]] = some S197 := by kernel_rfl
end Go.Proofs.Ytniobbepliknmaa.V
namespace Go.Proofs.Ytniobbepliknmaa.V
open Go
set_option linter.unusedVariables false
set_option linter.unusedSimpArgs false
/- rank: sym, part, ways walked; no condition. -/
attribute [local go_sem] e_seq e_region e_quiet e_join e_loop e_cond e_block e_exit e_ret e_skip e_fin e_kseq e_snrm e_sret e_sex e_bnrm e_bret e_bex e_rnrm e_rret e_res e_condC e_nil e_g e_mv g_mv e_pick g_pick pickC_eq e_ibin g_ibin ibinC_eq e_sbin g_sbin e_beq g_beq beqC_eq e_nilq g_nilq nilqC_sl nilqC_pt nilqC_mp e_un g_un unC_not unC_neg e_conv g_conv convC_eq e_fld g_fld fldC_ref fldC_ptr e_nilCheck g_nilCheck nilCheckC_ref nilCheckC_ptr nilCheckC_fun e_field g_field fieldC_eq e_len g_len lenC_sl lenC_str e_extract g_extract extractC_eq e_mkFunc e_build g_build e_idiv g_idiv idivC_eq e_ishift g_ishift ishiftC_eq e_idx g_idx e_idxA g_idxA e_load g_load e_loadB g_loadB atB_ref atB_v g_mkFunc loadC_ref loadC_ptr loadB_eq e_slc g_slc e_box boxC_loc boxC_esc e_alloc allocC_loc allocC_esc e_buildS e_store storeC_ref storeC_ptr storeB_eq e_append e_appz e_mk mkC_eq e_call callC_eq e_fn g_fn fnC_eq fnV_min' fnV_max' fnV_rune' e_q g_q e_a e_n g_call g_box g_alloc g_buildS g_store g_append g_mk g_a g_n g_dead e_dead e_callK e_drawn e_tree e_finJ e_tk e_tfin e_tno e_nbt_q e_nbt_qn e_nbt_a e_nbt_an e_nbt_fin e_drawnB e_bxb_nil e_bxb e_stB_none e_stB_some boxSt_store bs_mv bs_pick bs_ibin bs_idiv bs_ishift bs_sbin bs_beq bs_nilq bs_un bs_conv bs_box bs_alloc bs_build bs_buildS bs_load bs_fld bs_nilCheck bs_idx bs_idxA bs_field bs_slc bs_len bs_append bs_appz bs_mk bs_call bs_extract bs_mkFunc bs_fn bs_q bs_a bs_n bs_loadB bs_dead isBox_box e_early_nil e_early_t e_early_f e_nob_nil e_nob_none e_nob_some isBox_dead isBox_v isBox_ref e_dnil e_dk e_ek e_finB vcOps_vc1 e_dcons e_tq e_ekt e_tearly e_talt e_dearly look_nil look_c proj_nil proj_c looks_nil looks_c zip_nil zip_c val_tmp val_const val_func slv_v slv_box slv_ref slot_tmp slot_const slot_func slotL_v slotL_box slotL_ref put_some put_none updBox_c boxSet_box gd_eq slotVals_nil slotVals_c slotVals_b boxV_box boxOn_box slotsOn_nil slotsOn_c slotsOn_b resV_one resV_two vals_nil vals_c allOn_nil allOn_c partOn_nil partOn_c partVals_nil partVals_c fits_nil fits_c fillL_nil fillL_c mkv_one mkv_agg cellsV_agg cellsV_int cellsV_bool cellsV_slice cellsV_string cellsV_pointer cellsV_func cellsV_nilf cellsV_map one'_nil one'_c oc_int oc_bool oc_slice oc_string oc_pointer oc_func oc_nilf oc_map setC_eq iv_add iv_sub iv_mul iv_eql iv_neq iv_lss iv_leq iv_gtr iv_geq iok_add iok_sub iok_mul iok_eql iok_neq iok_lss iok_leq iok_gtr iok_geq pickV_bool args0_nil args0_c bnd_none bnd_some imp_bt imp_bf imp_ebt imp_ebf imp_eb1 imp_np imp_pp beq_tt beq_tf beq_ft beq_ff cond_or cond_and e_round e_meet Int.le_refl Int.toNat_zero decide_true decide_false Bool.or_false Bool.false_or Bool.true_or Bool.or_true Bool.and_false Bool.false_and Bool.bne_false Bool.bne_true beq_iff_eq Int.cast_ofNat_Int not_false_eq_true not_true_eq_false false_and and_false false_implies true_implies true_and and_true Bool.true_and Bool.and_true Bool.not_true Bool.not_false forall_const implies_true List.take_zero List.drop_zero List.take_succ_cons List.drop_succ_cons List.take_nil List.drop_nil List.length_cons List.length_nil List.nil_append List.append_nil List.cons_append Int.toNat_natCast decide_eq_true_eq decide_eq_false_iff_not cond_true cond_false and_self List.getElem?_cons_zero List.getElem?_cons_succ List.set_cons_zero List.set_cons_succ Option.some.injEq exists_eq_left' Nat.zero_add Nat.add_zero Nat.mul_one imp_self true_or or_true or_false false_or Bool.or_eq_true Bool.or_eq_false_iff Bool.and_eq_true Bool.and_eq_false_iff Bool.not_eq_true' Bool.not_eq_false'

theorem kt_ipk : KT Try.prog 294 intsV (okInts 3) := kt_ints (P := Try.prog) (k := 294) (e := 3) (n := 3) (by kernel_rfl) (of_decide_eq_true (by kernel_rfl)) (of_decide_eq_true (by kernel_rfl)) (by kernel_rfl) (by kernel_rfl) (by kernel_rfl) (by kernel_rfl) (by kernel_rfl) (by kernel_rfl)
def bkC (g : Gr) (R : Option Addr) (cR : Nat) (An : Option Addr) (cn bm : Nat) : List Value :=
  [.int .i64 g.ts, .int .i64 g.ns, .int .i64 g.st, .slice R g.rs.length cR, .slice An g.ns.toNat cn, .map (some bm)]
/-- what of a book does not change -/
structure BookK (L : Mem) (b : Nat) (g : Gr) (n : Nat) (R : Option Addr) (cR : Nat) (An : Option Addr) (cn bm : Nat) : Prop where
  out : L b (.cells (bkC g R cR An cn bm).toArray 268 (0, 0))
  rs : SlOk L R cR g.rs
  n : SlOk L An cn (cenRows g n g.ns.toNat)
theorem BookK.mono {L L' : Mem} {b : Nat} {g : Gr} {n : Nat} {R : Option Addr} {cR : Nat} {An : Option Addr} {cn bm : Nat} (h : BookK L b g n R cR An cn bm) (hl : Mem.le L L') : BookK L' b g n R cR An cn bm := ⟨hl _ _ h.out, h.rs.mono hl, h.n.mono hl⟩
def symZ (g : Gr) (n : Nat) (s : Sy) (j : Nat) : Int := if s.t then (if j = 1 then 1 else 0) else cenF g n s.n.toNat j
theorem book_sym {Γr : Ctx} {b : Nat} {g : Gr} {n : Nat} {R : Option Addr} {cR : Nat} {An : Option Addr} {cn bm : Nat} (hB : BookK (lk Γr) b g n R cR An cn bm) {s : Sy} (hs : s.t = false → 0 ≤ s.n ∧ s.n < g.ns) {j : Nat} (hj : j ≤ n) (hn : n ≤ 24) :
    Ret Try.prog 212 [.pointer (some ⟨b, 0, none⟩), .agg #[.bool s.t, .int .i64 s.n], .int .i64 (j : Int)] Γr [] (fun v Γ => Γ = [] ∧ v = .int .i64 (symZ g n s j)) := by
  generalize hR : (fun (v : Value) (Γ : Ctx) => Γ = [] ∧ v = _) = R'
  refine ret_of_vc tr212 (Nat.le_of_ble_eq_true rfl) ?_
  obtain ⟨st, sn⟩ := s
  cases st with
  | true =>
    simp -implicitDefEqProofs only [S212, S212_0, go_sem, Nat.reduceBEq, Nat.reduceAdd, Nat.reduceSub, Nat.reduceMul, Nat.reduceLeDiff, reduceCtorEq, ↓reduceIte, Int.reduceLT, Int.reduceLE, Int.reduceEq, Int.reduceNe]
    refine ⟨fun h => Up.here ?_, fun h => Up.here ?_⟩
    · subst hR
      have : j = 1 := by omega
      exact ⟨rfl, by simp [symZ, this]⟩
    · subst hR
      have : ¬ j = 1 := by omega
      exact ⟨rfl, by simp [symZ, this]⟩
  | false =>
    have hs : 0 ≤ sn ∧ sn < g.ns := hs rfl
    obtain ⟨a, rfl⟩ : ∃ a : Nat, sn = a := ⟨sn.toNat, by omega⟩
    have hcl : (cenRows g n g.ns.toNat).length = g.ns.toNat := by simp [cenRows]
    obtain ⟨b1, o1, h1, A1, c1, hr1, hc1⟩ := hB.n.list (i := a) (by omega)
    have e1 : (cenRows g n g.ns.toNat)[a]'(by omega) = cenRow g n a (n + 1) := by simp [cenRows]
    rw [e1] at hr1 hc1
    have hrl : (cenRow g n a (n + 1)).length = n + 1 := by simp [cenRow]
    rw [hrl] at hc1
    obtain ⟨b2, o2, h2, hc2⟩ := hr1.int (i := j) (by omega)
    have e2 : (cenRow g n a (n + 1))[j]'(by omega) = cenF g n a j := by simp [cenRow]
    rw [e2] at hc2
    simp -implicitDefEqProofs only [S212, S212_0, go_sem, Nat.reduceBEq, Nat.reduceAdd, Nat.reduceSub, Nat.reduceMul, Nat.reduceLeDiff, reduceCtorEq, ↓reduceIte, Int.reduceLT, Int.reduceLE, Int.reduceEq, Int.reduceNe]
    intro bs
    refine s_ld (j := 4) (cells_lk hB.out) (by simp [bkC]) (by simp) ?_
    simp -implicitDefEqProofs only [bkC, go_sem, Nat.reduceBEq, Nat.reduceAdd, Nat.reduceSub, Nat.reduceMul, Nat.reduceLeDiff, reduceCtorEq, ↓reduceIte, Int.reduceLT, Int.reduceLE, Int.reduceEq, Int.reduceNe]
    refine s_idx h1 (by omega) (by omega) ?_
    simp -implicitDefEqProofs only [go_sem, Nat.reduceBEq, Nat.reduceAdd, Nat.reduceSub, Nat.reduceMul, Nat.reduceLeDiff, reduceCtorEq, ↓reduceIte, Int.reduceLT, Int.reduceLE, Int.reduceEq, Int.reduceNe]
    refine s_ld0 (hc1 _ (lk_r [] _)) (by simp) (by simp) ?_
    simp -implicitDefEqProofs only [go_sem, Nat.reduceBEq, Nat.reduceAdd, Nat.reduceSub, Nat.reduceMul, Nat.reduceLeDiff, reduceCtorEq, ↓reduceIte, Int.reduceLT, Int.reduceLE, Int.reduceEq, Int.reduceNe]
    refine s_idx h2 (by omega) (by omega) ?_
    simp -implicitDefEqProofs only [go_sem, Nat.reduceBEq, Nat.reduceAdd, Nat.reduceSub, Nat.reduceMul, Nat.reduceLeDiff, reduceCtorEq, ↓reduceIte, Int.reduceLT, Int.reduceLE, Int.reduceEq, Int.reduceNe]
    refine s_ld0 (hc2 _ (lk_r [] _)) (by simp) (by simp) ?_
    simp -implicitDefEqProofs only [go_sem, Nat.reduceBEq, Nat.reduceAdd, Nat.reduceSub, Nat.reduceMul, Nat.reduceLeDiff, reduceCtorEq, ↓reduceIte, Int.reduceLT, Int.reduceLE, Int.reduceEq, Int.reduceNe]
    refine Up.here ?_
    subst hR
    exact ⟨rfl, by simp [symZ]⟩
theorem symZ_zero {g : Gr} (V : VG g) {n : Nat} {s : Sy} (hs : s.t = false → 0 ≤ s.n) {j : Nat} (hj : j ≤ n) : symZ g n s j = 0 ↔ symT (cntT g (mostN g n)) s j = 0 := by
  obtain ⟨st, sn⟩ := s
  cases st with
  | true => simp only [symZ, symT, if_true]; split <;> simp
  | false =>
    obtain ⟨a, rfl⟩ : ∃ a : Nat, sn = a := ⟨sn.toNat, by have := hs rfl; simp at this; omega⟩
    have := cenF_zero V (n := n) (b := a) hj
    simpa [symZ, symT] using this
theorem symZ_in {g : Gr} {n : Nat} (F : Fine g n) {s : Sy} (hs : s.t = false → 0 ≤ s.n) {l : List Sy} {j k : Nat} (hk : k ≤ n) (hj : j ≤ k) (h : InR g g.st n (s :: l) k) (hp : 0 < rowT (cntT g (mostN g n)) l (k - j)) : symZ g n s j = (symT (cntT g (mostN g n)) s j : Nat) := by
  obtain ⟨st, sn⟩ := s
  cases st with
  | true => simp only [symZ, symT, if_true]; split <;> rfl
  | false =>
    obtain ⟨a, rfl⟩ : ∃ a : Nat, sn = a := ⟨sn.toNat, by have := hs rfl; simp at this; omega⟩
    have := (h.sym hj rfl hp).cen F (b := a) (by omega)
    simpa [symZ, symT] using this
def KnW (g : Gr) (n : Nat) (l : List (List Int × Int)) : Prop := ∀ (i p k : Nat) (w : Int) (r : Ru), mget l [(i : Int), (p : Int), (k : Int)] = some w → g.rs[i]? = some r → w = (rowT (cntT g (mostN g n)) (r.r.drop p) k : Nat)
def WayQ (g : Gr) (n bm : Nat) (x : Nat) (v : Value) (Γ : Ctx) : Prop := ∃ gm lst, Γ = [gm] ∧ v = .int .i64 (x : Int) ∧ MapM gm bm intsV (Value.int .i64) (okInts 3) lst ∧ KnW g n lst
def WaysC (g : Gr) (n b : Nat) (R : Option Addr) (cR : Nat) (An : Option Addr) (cn bm i p : Nat) (l : List Sy) : Prop := ∀ {k : Nat}, k ≤ n → InR g g.st n l k → ∀ {Γr : Ctx} {gm : PH} {lst : List (List Int × Int)}, BookK (lk Γr) b g n R cR An cn bm → MapM gm bm intsV (Value.int .i64) (okInts 3) lst → KnW g n lst →
  Ret Try.prog 197 [.pointer (some ⟨b, 0, none⟩), .int .i64 (i : Int), .int .i64 (p : Int), .int .i64 (k : Int)] Γr [gm] (WayQ g n bm (rowT (cntT g (mostN g n)) l k))
theorem part_of {g : Gr} {n : Nat} (F : Fine g n) (hn : n ≤ 24) {b : Nat} {R : Option Addr} {cR : Nat} {An : Option Addr} {cn bm i p : Nat} (hi : i < g.rs.length) (hp : p < g.rs[i].r.length) (hrec : WaysC g n b R cR An cn bm i (p + 1) (g.rs[i].r.drop (p + 1))) {j k : Nat} (hj : j ≤ k) (hk : k ≤ n) (hI : InR g g.st n (g.rs[i].r.drop p) k)
    {Γr : Ctx} {gm : PH} {lst : List (List Int × Int)} (hB : BookK (lk Γr) b g n R cR An cn bm) (hM : MapM gm bm intsV (Value.int .i64) (okInts 3) lst) (hK : KnW g n lst) :
    Ret Try.prog 211 [.pointer (some ⟨b, 0, none⟩), .int .i64 (i : Int), .int .i64 (p : Int), .int .i64 (j : Int), .int .i64 (k : Int)] Γr [gm] (WayQ g n bm (symT (cntT g (mostN g n)) g.rs[i].r[p] j * rowT (cntT g (mostN g n)) (g.rs[i].r.drop (p + 1)) (k - j))) := by
  generalize hRR : WayQ g n bm _ = R'
  refine ret_of_vc tr211 (Nat.le_of_ble_eq_true rfl) ?_
  simp -implicitDefEqProofs only [S211, S211_0, go_sem, Nat.reduceBEq, Nat.reduceAdd, Nat.reduceSub, Nat.reduceMul, Nat.reduceLeDiff, reduceCtorEq, ↓reduceIte, Int.reduceLT, Int.reduceLE, Int.reduceEq, Int.reduceNe]
  have V := F.V
  have hmem := List.getElem_mem hi
  have hr4 := V.right _ hmem
  have hsym := V.sym _ hmem
  have hsh := hB.rs.short
  obtain ⟨b0, o0, h0, A1, c1, hr1, hcr⟩ := hB.rs.ru hi
  have hdrop : g.rs[i].r.drop p = g.rs[i].r[p] :: g.rs[i].r.drop (p + 1) := List.drop_eq_getElem_cons hp
  have hs := hsym _ (List.getElem_mem hp)
  obtain ⟨b3, o3, h3, hc3⟩ := hr1.sy hp
  rw [hdrop] at hI
  generalize hll : g.rs[i].r.drop (p + 1) = l at *
  generalize hss : g.rs[i].r[p] = s at *
  generalize g.rs[i].r = l0 at *
  have hvl := V.len
  refine s_ld (j := 3) (cells_lk (lk_r [gm] _ _ _ hB.out)) (by simp [bkC]) (by simp) ?_
  simp -implicitDefEqProofs only [bkC, go_sem, Nat.reduceBEq, Nat.reduceAdd, Nat.reduceSub, Nat.reduceMul, Nat.reduceLeDiff, reduceCtorEq, ↓reduceIte, Int.reduceLT, Int.reduceLE, Int.reduceEq, Int.reduceNe]
  refine s_idx h0 (by omega) (by omega) ?_
  simp -implicitDefEqProofs only [go_sem, Nat.reduceBEq, Nat.reduceAdd, Nat.reduceSub, Nat.reduceMul, Nat.reduceLeDiff, reduceCtorEq, ↓reduceIte, Int.reduceLT, Int.reduceLE, Int.reduceEq, Int.reduceNe]
  refine s_ld (j := 1) (by simpa using hcr _ (lk_r [gm] _)) (by simp) (by simp) ?_
  simp -implicitDefEqProofs only [go_sem, Nat.reduceBEq, Nat.reduceAdd, Nat.reduceSub, Nat.reduceMul, Nat.reduceLeDiff, reduceCtorEq, ↓reduceIte, Int.reduceLT, Int.reduceLE, Int.reduceEq, Int.reduceNe]
  refine s_idx h3 (by omega) (by omega) ?_
  simp -implicitDefEqProofs only [go_sem, Nat.reduceBEq, Nat.reduceAdd, Nat.reduceSub, Nat.reduceMul, Nat.reduceLeDiff, reduceCtorEq, ↓reduceIte, Int.reduceLT, Int.reduceLE, Int.reduceEq, Int.reduceNe]
  refine s_ld0 (by simpa using hc3 _ (lk_r [gm] _)) (by simp) (by simp) ?_
  simp -implicitDefEqProofs only [go_sem, Nat.reduceBEq, Nat.reduceAdd, Nat.reduceSub, Nat.reduceMul, Nat.reduceLeDiff, reduceCtorEq, ↓reduceIte, Int.reduceLT, Int.reduceLE, Int.reduceEq, Int.reduceNe]
  refine CallVC.read (book_sym (Γr := [gm] ++ Γr) (hB.mono (lk_r [gm] _)) (fun h => ⟨hs.1, hs.2.2 h⟩) (j := j) (by omega) hn) ?_
  rintro v Γ' ⟨rfl, rfl⟩
  have hz := symZ_zero V (n := n) (s := s) (fun _ => hs.1) (j := j) (by omega)
  simp -implicitDefEqProofs only [go_sem, Nat.reduceBEq, Nat.reduceAdd, Nat.reduceSub, Nat.reduceMul, Nat.reduceLeDiff, reduceCtorEq, ↓reduceIte, Int.reduceLT, Int.reduceLE, Int.reduceEq, Int.reduceNe]
  refine ⟨fun hz0 => Up.here ?_, fun hz1 => ?_⟩
  · subst hRR
    rw [hz.1 hz0, Nat.zero_mul]
    exact ⟨gm, lst, rfl, rfl, hM, hK⟩
  · have hpos : 0 < symT (cntT g (mostN g n)) s j := Nat.pos_of_ne_zero fun e => hz1 (hz.2 e)
    have hw1 : IntKind.i64.wrap ((p : Int) + 1) = ((p + 1 : Nat) : Int) := by rw [wrap_id (by omega) (by omega)]; rfl
    have hw2 : IntKind.i64.wrap ((k : Int) - (j : Int)) = ((k - j : Nat) : Int) := by rw [wrap_id (by omega) (by omega)]; omega
    rw [hw1, hw2]
    refine CallVC.perm (Γm := [gm]) (Γf := []) (hrec (k := k - j) (by omega) (hI.rest hj hpos) (Γr := Γr) hB hM hK) (List.Perm.refl _) (List.Sublist.refl _) ?_
    rintro v Γ' ⟨gm', lst', rfl, rfl, hM', hK'⟩
    simp -implicitDefEqProofs only [go_sem, Nat.reduceBEq, Nat.reduceAdd, Nat.reduceSub, Nat.reduceMul, Nat.reduceLeDiff, reduceCtorEq, ↓reduceIte, Int.reduceLT, Int.reduceLE, Int.reduceEq, Int.reduceNe]
    refine Up.here ?_
    subst hRR
    refine ⟨gm', lst', rfl, ?_, hM', hK'⟩
    have hfew := hI.few F (mostN g n)
    have hfirst := row_first (cntT g (mostN g n)) s l hj
    rcases Nat.eq_zero_or_pos (rowT (cntT g (mostN g n)) l (k - j)) with e | e
    · rw [e]
      simp [wrap_id]
    · rw [symZ_in F (fun _ => hs.1) hk hj hI e, ← Int.natCast_mul, wrap_id (by omega) (by omega)]
theorem KnW.put {g : Gr} {n : Nat} {l : List (List Int × Int)} (h : KnW g n l) {i p k : Nat} {r : Ru} (hr : g.rs[i]? = some r) : KnW g n (mput l [(i : Int), (p : Int), (k : Int)] ((rowT (cntT g (mostN g n)) (r.r.drop p) k : Nat) : Int)) := by
  intro i' p' k' w r' h1 h2
  rw [mget_put] at h1
  split at h1
  · rename_i e
    simp only [List.cons.injEq, and_true] at e
    obtain ⟨e1, e2, e3⟩ := e
    have e1 : i' = i := by omega
    have e2 : p' = p := by omega
    have e3 : k' = k := by omega
    subst e1 e2 e3
    rw [hr] at h2
    cases h2
    cases h1
    rfl
  · exact h i' p' k' w r' h1 h2
theorem sumN_mono (f : Nat → Nat) {a b : Nat} (h : a ≤ b) : sumN f a ≤ sumN f b := by
  obtain ⟨d, rfl⟩ : ∃ d, b = a + d := ⟨b - a, by omega⟩
  clear h
  induction d with
  | zero => exact Nat.le_refl _
  | succ d ih => exact Nat.le_trans ih (Nat.le_add_right _ _)
theorem ways_all {g : Gr} {n : Nat} (F : Fine g n) (hn : n ≤ 24) {b : Nat} {R : Option Addr} {cR : Nat} {An : Option Addr} {cn bm i : Nat} (hi : i < g.rs.length) : ∀ (d p : Nat), p + d = g.rs[i].r.length → WaysC g n b R cR An cn bm i p (g.rs[i].r.drop p) := by
  intro d
  induction d with
  | zero =>
    intro p hp k hk hI Γr gm lst hB hM hK
    generalize hRR : WayQ g n bm _ = R'
    refine ret_of_vc tr197 (Nat.le_of_ble_eq_true rfl) ?_
    simp -implicitDefEqProofs only [S197, S197_0, go_sem, Nat.reduceBEq, Nat.reduceAdd, Nat.reduceSub, Nat.reduceMul, Nat.reduceLeDiff, reduceCtorEq, ↓reduceIte, Int.reduceLT, Int.reduceLE, Int.reduceEq, Int.reduceNe]
    have hsh := hB.rs.short
    obtain ⟨b0, o0, h0, A1, c1, hr1, hcr⟩ := hB.rs.ru hi
    have hpl : p = g.rs[i].r.length := by omega
    rw [hpl, List.drop_length] at hRR
    generalize g.rs[i].r = l0 at *
    refine s_ld (j := 3) (cells_lk (lk_r [gm] _ _ _ hB.out)) (by simp [bkC]) (by simp) ?_
    simp -implicitDefEqProofs only [bkC, go_sem, Nat.reduceBEq, Nat.reduceAdd, Nat.reduceSub, Nat.reduceMul, Nat.reduceLeDiff, reduceCtorEq, ↓reduceIte, Int.reduceLT, Int.reduceLE, Int.reduceEq, Int.reduceNe]
    refine s_idx h0 (by omega) (by omega) ?_
    simp -implicitDefEqProofs only [go_sem, Nat.reduceBEq, Nat.reduceAdd, Nat.reduceSub, Nat.reduceMul, Nat.reduceLeDiff, reduceCtorEq, ↓reduceIte, Int.reduceLT, Int.reduceLE, Int.reduceEq, Int.reduceNe]
    refine s_ld (j := 1) (by simpa using hcr _ (lk_r [gm] _)) (by simp) (by simp) ?_
    simp -implicitDefEqProofs only [go_sem, Nat.reduceBEq, Nat.reduceAdd, Nat.reduceSub, Nat.reduceMul, Nat.reduceLeDiff, reduceCtorEq, ↓reduceIte, Int.reduceLT, Int.reduceLE, Int.reduceEq, Int.reduceNe]
    refine ⟨fun _ => ⟨fun hk0 => Up.here ?_, fun hk1 => Up.here ?_⟩, fun hne => absurd (by omega) hne⟩
    · subst hRR
      have : k = 0 := by omega
      subst this
      exact ⟨gm, lst, rfl, rfl, hM, hK⟩
    · subst hRR
      refine ⟨gm, lst, rfl, ?_, hM, hK⟩
      show Value.int .i64 0 = .int .i64 ((if k = 0 then 1 else 0 : Nat) : Int)
      rw [if_neg (by omega)]
      rfl
  | succ d ih =>
    intro p hp k hk hI Γr gm lst hB hM hK
    have hpl : p < g.rs[i].r.length := by omega
    have hpart := fun {Γr : Ctx} {gm : PH} {lst : List (List Int × Int)} (j : Nat) (hj : j ≤ k) => @part_of g n F hn b R cR An cn bm i p hi hpl (ih (p + 1) (by omega)) j k hj hk hI Γr gm lst
    have hri := List.getElem?_eq_getElem hi
    have hput := fun (lst : List (List Int × Int)) (h : KnW g n lst) => h.put (p := p) (k := k) hri
    have hdrop : g.rs[i].r.drop p = g.rs[i].r[p] :: g.rs[i].r.drop (p + 1) := List.drop_eq_getElem_cons hpl
    have hfew := hI.few F (mostN g n)
    have hknown := fun w q => hK i p k w _ q hri
    have hr4 := F.V.right _ (List.getElem_mem hi)
    have hvl := F.V.len
    have hrow : rowT (cntT g (mostN g n)) (g.rs[i].r.drop p) k = sumN (fun j => symT (cntT g (mostN g n)) g.rs[i].r[p] j * rowT (cntT g (mostN g n)) (g.rs[i].r.drop (p + 1)) (k - j)) (k + 1) := by rw [hdrop]; rfl
    generalize hRR : WayQ g n bm _ = R'
    refine ret_of_vc tr197 (Nat.le_of_ble_eq_true rfl) ?_
    simp -implicitDefEqProofs only [S197, S197_0, go_sem, Nat.reduceBEq, Nat.reduceAdd, Nat.reduceSub, Nat.reduceMul, Nat.reduceLeDiff, reduceCtorEq, ↓reduceIte, Int.reduceLT, Int.reduceLE, Int.reduceEq, Int.reduceNe]
    have hsh := hB.rs.short
    obtain ⟨b0, o0, h0, A1, c1, hr1, hcr⟩ := hB.rs.ru hi
    generalize hT : cntT g (mostN g n) = T at *
    generalize g.rs[i].r[p] = s at *
    generalize g.rs[i].r.drop (p + 1) = l at *
    generalize hX : rowT T (g.rs[i].r.drop p) k = X at *
    have hkok : okInts 3 [(i : Int), (p : Int), (k : Int)] := ⟨rfl, fun x hx => by
      simp only [List.mem_cons, List.not_mem_nil, or_false] at hx
      rcases hx with rfl | rfl | rfl <;> exact wf64 (by omega) (by omega)⟩
    refine s_ld (j := 3) (cells_lk (lk_r [gm] _ _ _ hB.out)) (by simp [bkC]) (by simp) ?_
    simp -implicitDefEqProofs only [bkC, go_sem, Nat.reduceBEq, Nat.reduceAdd, Nat.reduceSub, Nat.reduceMul, Nat.reduceLeDiff, reduceCtorEq, ↓reduceIte, Int.reduceLT, Int.reduceLE, Int.reduceEq, Int.reduceNe]
    refine s_idx h0 (by omega) (by omega) ?_
    simp -implicitDefEqProofs only [go_sem, Nat.reduceBEq, Nat.reduceAdd, Nat.reduceSub, Nat.reduceMul, Nat.reduceLeDiff, reduceCtorEq, ↓reduceIte, Int.reduceLT, Int.reduceLE, Int.reduceEq, Int.reduceNe]
    refine s_ld (j := 1) (by simpa using hcr _ (lk_r [gm] _)) (by simp) (by simp) ?_
    simp -implicitDefEqProofs only [go_sem, Nat.reduceBEq, Nat.reduceAdd, Nat.reduceSub, Nat.reduceMul, Nat.reduceLeDiff, reduceCtorEq, ↓reduceIte, Int.reduceLT, Int.reduceLE, Int.reduceEq, Int.reduceNe]
    refine ⟨fun heq => absurd heq (by omega), fun _ => ?_⟩
    intro ba
    refine s_ld (j := 5) (cells_lk (lk_r [gm] _ _ _ hB.out)) (by simp [bkC]) (by simp) ?_
    simp -implicitDefEqProofs only [bkC, go_sem, Nat.reduceBEq, Nat.reduceAdd, Nat.reduceSub, Nat.reduceMul, Nat.reduceLeDiff, reduceCtorEq, ↓reduceIte, Int.reduceLT, Int.reduceLE, Int.reduceEq, Int.reduceNe]
    rw [show Value.agg #[Value.int IntKind.i64 (i : Int), Value.int IntKind.i64 (p : Int), Value.int IntKind.i64 (k : Int)] = intsV [(i : Int), (p : Int), (k : Int)] from rfl]
    refine s_q trivial (qr_look kt_ipk (et := 3) (z := .int .i64 0) (by kernel_rfl) (zero_run (by kernel_rfl)) true (hM.l (by simp)) hkok) ?_
    cases hget : mget lst [(i : Int), (p : Int), (k : Int)] with
    | some w =>
      have hw := hknown w hget
      simp only [Option.elim_some, Option.isSome_some, if_true]
      simp -implicitDefEqProofs only [go_sem, Nat.reduceBEq, Nat.reduceAdd, Nat.reduceSub, Nat.reduceMul, Nat.reduceLeDiff, reduceCtorEq, ↓reduceIte, Int.reduceLT, Int.reduceLE, Int.reduceEq, Int.reduceNe]
      refine Up.here ?_
      subst hRR
      exact ⟨gm, lst, rfl, by rw [hw], hM, hK⟩
    | none =>
      simp only [Option.elim_none, Option.isSome_none, if_true]
      have hw1 : IntKind.i64.wrap ((k : Int) + 1) = ((k + 1 : Nat) : Int) := by rw [wrap_id (by omega) (by omega)]; rfl
      have hM0 := hM
      have hK0 := hK
      clear hM hK hget hknown
      simp -implicitDefEqProofs only [hw1, go_sem, Nat.reduceBEq, Nat.reduceAdd, Nat.reduceSub, Nat.reduceMul, Nat.reduceLeDiff, reduceCtorEq, ↓reduceIte, Int.reduceLT, Int.reduceLE, Int.reduceEq, Int.reduceNe]
      refine s_loop (fun f vs Γ => ∃ (gm : PH) (lst : List (List Int × Int)) (j : Nat), vs = [.v true (.int .i64 ((sumN (fun j => symT T s j * rowT T l (k - j)) j : Nat) : Int)), .v true (.int .i64 (j : Int))] ∧ Γ = [gm] ∧ j + f = k + 1 ∧ MapM gm bm intsV (Value.int .i64) (okInts 3) lst ∧ KnW g n lst) (k + 1)
        (Up.here ⟨gm, lst, 0, rfl, rfl, by omega, hM0, hK0⟩) ?_
      clear hM0 hK0
      rintro f vs Γ ⟨gm, lst, j, rfl, rfl, hjf, hM, hK⟩
      simp -implicitDefEqProofs only [S197_1, go_sem, Nat.reduceBEq, Nat.reduceAdd, Nat.reduceSub, Nat.reduceMul, Nat.reduceLeDiff, reduceCtorEq, ↓reduceIte, Int.reduceLT, Int.reduceLE, Int.reduceEq, Int.reduceNe]
      refine ⟨fun hlt => ?_, fun hge => ?_⟩
      · have hj : j ≤ k := by omega
        have hmo := sumN_mono (fun j => symT T s j * rowT T l (k - j)) (show j + 1 ≤ k + 1 by omega)
        rw [← hrow, sumN] at hmo
        have hw2 : IntKind.i64.wrap (((sumN (fun j => symT T s j * rowT T l (k - j)) j : Nat) : Int) + ((symT T s j * rowT T l (k - j) : Nat) : Int)) = ((sumN (fun j => symT T s j * rowT T l (k - j)) (j + 1) : Nat) : Int) := by
          rw [← Int.natCast_add, wrap_id (by omega) (by omega)]
          rfl
        refine CallVC.perm (Γm := [gm]) (Γf := []) (hpart j hj (Γr := Γr) hB hM hK) (List.Perm.refl _) (List.Sublist.refl _) ?_
        rintro v Γ' ⟨gm', lst', rfl, rfl, hM', hK'⟩
        simp -implicitDefEqProofs only [hw2, go_sem, Nat.reduceBEq, Nat.reduceAdd, Nat.reduceSub, Nat.reduceMul, Nat.reduceLeDiff, reduceCtorEq, ↓reduceIte, Int.reduceLT, Int.reduceLE, Int.reduceEq, Int.reduceNe]
        simp (disch := omega) only [wrap_id]
        exact ⟨f - 1, by omega, Up.here ⟨gm', lst', j + 1, rfl, rfl, by omega, hM', hK'⟩⟩
      · have hje : j = k + 1 := by omega
        subst hje
        rw [← hrow]
        refine s_ld (j := 5) (cells_lk (lk_r [gm] _ _ _ hB.out)) (by simp [bkC]) (by simp) ?_
        simp -implicitDefEqProofs only [bkC, go_sem, Nat.reduceBEq, Nat.reduceAdd, Nat.reduceSub, Nat.reduceMul, Nat.reduceLeDiff, reduceCtorEq, ↓reduceIte, Int.reduceLT, Int.reduceLE, Int.reduceEq, Int.reduceNe]
        rw [show Value.agg #[Value.int IntKind.i64 (i : Int), Value.int IntKind.i64 (p : Int), Value.int IntKind.i64 (k : Int)] = intsV [(i : Int), (p : Int), (k : Int)] from rfl]
        refine s_upd kt_ipk (et := 3) (ix := 0) (eV := Value.int .i64) (by kernel_rfl) rfl hM (X : Int) hkok ?_
        intro gm' hM' _
        simp -implicitDefEqProofs only [go_sem, Nat.reduceBEq, Nat.reduceAdd, Nat.reduceSub, Nat.reduceMul, Nat.reduceLeDiff, reduceCtorEq, ↓reduceIte, Int.reduceLT, Int.reduceLE, Int.reduceEq, Int.reduceNe]
        refine Up.here ?_
        subst hRR
        exact ⟨gm', _, rfl, rfl, hM', hput lst hK⟩
end Go.Proofs.Ytniobbepliknmaa.V
/- The text of parlance/tree.leaf as a statement (slots: 0 t, 1 t); no condition. -/
namespace Go.Proofs.Ytniobbepliknmaa.V
open Go
def S139_0 : Stmt :=
 .seq
 (.region
 [.mk (some 1) none (.box true 106 (.tmp 0)),
 .mk (some 2) none (.mv (.const (.bool false)))]
 [1])
 (.seq
 (.region
 [.mk (some 3) none (.fld 0 (.tmp 1)),.mk (some 4) none (.load false 1 (.tmp 3)),
 .mk (some 5) none (.ibin .eql (.tmp 4) (.const (.int .i64 (-1)))),
 .mk (some 2) none (.mv (.tmp 5))]
 [2])
 .ret)
def S139 : FnS := ⟨6,[(2,none)],S139_0⟩
theorem tr139 : trFn Try.prog 139 [1] [[1],[2]] = some S139 := by kernel_rfl
end Go.Proofs.Ytniobbepliknmaa.V
/- The text of parlance/tree.Size as a statement (slots: 0 t, 1 t, 3 n, 4 _, 5 k); no condition. -/
namespace Go.Proofs.Ytniobbepliknmaa.V
open Go
def S67_1 : Stmt :=
 .seq
 (.region [.mk (some 13) none (.ibin .lss (.tmp 12) (.tmp 11))] [3,10,11,12,13])
 (.seq (.cond (.tmp 13) .skip (.exit 0))
 (.seq
 (.block 1
 (.seq
 (.region
 [.mk (some 14) none (.idx 3 (.tmp 10) (.tmp 12)),
 .mk (some 15) none (.load true 3 (.tmp 14)),
 .mk (some 5) none
 (.alloc true 106
 (.agg (Array.mk [.int .i64 0,.int .i64 0,.slice none 0 0]))),
 .mk none none (.store 3 (.tmp 5) (.tmp 15))]
 [3,5,10,11,12])
 (.region
 [.mk (some 16) none (.mv (.tmp 3)),
 .mk (some 17) none (.load true 3 (.tmp 5)),
 .mk (some 18) none (.call (.func 67) [.tmp 17]),
 .mk (some 19) none (.ibin .add (.tmp 16) (.tmp 18)),
 .mk (some 3) none (.mv (.tmp 19))]
 [3,10,11,12])))
 (.region
 [.mk (some 20) none (.ibin .add (.tmp 12) (.const (.int .i64 1))),
 .mk (some 12) none (.mv (.tmp 20))]
 [3,10,11,12])))
def S67_0 : Stmt :=
 .seq
 (.region
 [.mk (some 1) none (.box true 106 (.tmp 0)),
 .mk (some 2) none (.mv (.const (.int .i64 0)))]
 [1])
 (.seq (.region [.mk (some 3) none (.mv (.const (.int .i64 1)))] [1,3])
 (.seq
 (.seq
 (.region
 [.mk (some 6) none (.load true 3 (.tmp 1)),
 .mk (some 7) none (.call (.func 139) [.tmp 6])]
 [1,3,7])
 (.cond (.tmp 7)
 (.seq
 (.region
 [.mk (some 8) none (.mv (.tmp 3)),.mk (some 2) none (.mv (.tmp 8))] [2])
 .ret)
 .skip))
 (.seq
 (.seq
 (.region
 [.mk (some 9) none (.fld 2 (.tmp 1)),
 .mk (some 10) none (.load false 1 (.tmp 9)),
 .mk (some 11) none (.len false (.tmp 10)),
 .mk (some 12) none (.mv (.const (.int .i64 0)))]
 [3,10,11,12])
 (.block 0 (.loop S67_1 [3,12] [10,11])))
 (.seq
 (.region
 [.mk (some 21) none (.mv (.tmp 3)),.mk (some 2) none (.mv (.tmp 21))] [2])
 .ret))))
def S67 : FnS := ⟨22,[(2,none)],S67_0⟩
theorem tr67 : trFn Try.prog 67 [1,5] [[1],[1,3],[1,3,7],[2],[3,10,11,12],[3,12],[10,11],[3,10,11,12,13],[3,5,10,11,12],[3,10,11,12],[3,10,11,12],[2]] = some S67 := by kernel_rfl
end Go.Proofs.Ytniobbepliknmaa.V
namespace Go.Proofs.Ytniobbepliknmaa.V
open Go
set_option linter.unusedVariables false
set_option linter.unusedSimpArgs false
/- The numbers of nodes of trees: tree.Size; no condition. -/
attribute [local go_sem] e_seq e_region e_quiet e_join e_loop e_cond e_block e_exit e_ret e_skip e_fin e_kseq e_snrm e_sret e_sex e_bnrm e_bret e_bex e_rnrm e_rret e_res e_condC e_nil e_g e_mv g_mv e_pick g_pick pickC_eq e_ibin g_ibin ibinC_eq e_sbin g_sbin e_beq g_beq beqC_eq e_nilq g_nilq nilqC_sl nilqC_pt nilqC_mp e_un g_un unC_not unC_neg e_conv g_conv convC_eq e_fld g_fld fldC_ref fldC_ptr e_nilCheck g_nilCheck nilCheckC_ref nilCheckC_ptr nilCheckC_fun e_field g_field fieldC_eq e_len g_len lenC_sl lenC_str e_extract g_extract extractC_eq e_mkFunc e_build g_build e_idiv g_idiv idivC_eq e_ishift g_ishift ishiftC_eq e_idx g_idx e_idxA g_idxA e_load g_load e_loadB g_loadB atB_ref atB_v g_mkFunc loadC_ref loadC_ptr loadB_eq e_slc g_slc e_box boxC_loc boxC_esc e_alloc allocC_loc allocC_esc e_buildS e_store storeC_ref storeC_ptr storeB_eq e_append e_appz e_mk mkC_eq e_call callC_eq e_fn g_fn fnC_eq fnV_min' fnV_max' fnV_rune' e_q g_q e_a e_n g_call g_box g_alloc g_buildS g_store g_append g_mk g_a g_n g_dead e_dead e_callK e_drawn e_tree e_finJ e_tk e_tfin e_tno e_nbt_q e_nbt_qn e_nbt_a e_nbt_an e_nbt_fin e_drawnB e_bxb_nil e_bxb e_stB_none e_stB_some boxSt_store bs_mv bs_pick bs_ibin bs_idiv bs_ishift bs_sbin bs_beq bs_nilq bs_un bs_conv bs_box bs_alloc bs_build bs_buildS bs_load bs_fld bs_nilCheck bs_idx bs_idxA bs_field bs_slc bs_len bs_append bs_appz bs_mk bs_call bs_extract bs_mkFunc bs_fn bs_q bs_a bs_n bs_loadB bs_dead isBox_box e_early_nil e_early_t e_early_f e_nob_nil e_nob_none e_nob_some isBox_dead isBox_v isBox_ref e_dnil e_dk e_ek e_finB vcOps_vc1 e_dcons e_tq e_ekt e_tearly e_talt e_dearly look_nil look_c proj_nil proj_c looks_nil looks_c zip_nil zip_c val_tmp val_const val_func slv_v slv_box slv_ref slot_tmp slot_const slot_func slotL_v slotL_box slotL_ref put_some put_none updBox_c boxSet_box gd_eq slotVals_nil slotVals_c slotVals_b boxV_box boxOn_box slotsOn_nil slotsOn_c slotsOn_b resV_one resV_two vals_nil vals_c allOn_nil allOn_c partOn_nil partOn_c partVals_nil partVals_c fits_nil fits_c fillL_nil fillL_c mkv_one mkv_agg cellsV_agg cellsV_int cellsV_bool cellsV_slice cellsV_string cellsV_pointer cellsV_func cellsV_nilf cellsV_map one'_nil one'_c oc_int oc_bool oc_slice oc_string oc_pointer oc_func oc_nilf oc_map setC_eq iv_add iv_sub iv_mul iv_eql iv_neq iv_lss iv_leq iv_gtr iv_geq iok_add iok_sub iok_mul iok_eql iok_neq iok_lss iok_leq iok_gtr iok_geq pickV_bool args0_nil args0_c bnd_none bnd_some imp_bt imp_bf imp_ebt imp_ebf imp_eb1 imp_np imp_pp beq_tt beq_tf beq_ft beq_ff cond_or cond_and e_round e_meet Int.le_refl Int.toNat_zero decide_true decide_false Bool.or_false Bool.false_or Bool.true_or Bool.or_true Bool.and_false Bool.false_and Bool.bne_false Bool.bne_true beq_iff_eq Int.cast_ofNat_Int not_false_eq_true not_true_eq_false false_and and_false false_implies true_implies true_and and_true Bool.true_and Bool.and_true Bool.not_true Bool.not_false forall_const implies_true List.take_zero List.drop_zero List.take_succ_cons List.drop_succ_cons List.take_nil List.drop_nil List.length_cons List.length_nil List.nil_append List.append_nil List.cons_append Int.toNat_natCast decide_eq_true_eq decide_eq_false_iff_not cond_true cond_false and_self List.getElem?_cons_zero List.getElem?_cons_succ List.set_cons_zero List.set_cons_succ Option.some.injEq exists_eq_left' Nat.zero_add Nat.add_zero Nat.mul_one imp_self true_or or_true or_false false_or Bool.or_eq_true Bool.or_eq_false_iff Bool.and_eq_true Bool.and_eq_false_iff Bool.not_eq_true' Bool.not_eq_false'

theorem tree_leaf {Γr : Ctx} (r t : Int) (A : Option Addr) (n c : Nat) :
    Ret Try.prog 139 [.agg #[.int .i64 r, .int .i64 t, .slice A n c]] Γr [] (fun v Γ => Γ = [] ∧ v = .bool (decide (r = -1))) := by
  generalize hR : (fun (v : Value) (Γ : Ctx) => Γ = [] ∧ _) = R
  refine ret_of_vc tr139 (Nat.le_of_ble_eq_true rfl) ?_
  simp -implicitDefEqProofs only [S139, S139_0, go_sem, Nat.reduceBEq, Nat.reduceAdd, Nat.reduceSub, Nat.reduceMul, Nat.reduceLeDiff, reduceCtorEq, ↓reduceIte, Int.reduceLT, Int.reduceLE, Int.reduceEq, Int.reduceNe]
  refine Up.here ?_
  subst hR
  exact ⟨rfl, rfl⟩
theorem tree_sizeB {Γr : Ctx} (x : Tr) : ∀ {A : Option Addr} {c : Nat}, SlOk (lk Γr) A c x.kids → numT x ≤ 20000000000 →
    Ret Try.prog 67 [.agg #[.int .i64 x.rule, .int .i64 x.term, .slice A x.kids.length c]] Γr [] (fun v Γ => Γ = [] ∧ v = .int .i64 (szT x)) := by
  refine Tr.ind (p := fun x => ∀ {A : Option Addr} {c : Nat}, SlOk (lk Γr) A c x.kids → numT x ≤ 20000000000 → Ret Try.prog 67 [.agg #[.int .i64 x.rule, .int .i64 x.term, .slice A x.kids.length c]] Γr [] (fun v Γ => Γ = [] ∧ v = .int .i64 (szT x))) (fun x ih A c hx hn => ?_) x
  generalize hR : (fun (v : Value) (Γ : Ctx) => Γ = [] ∧ _) = R
  refine ret_of_vc tr67 (Nat.le_of_ble_eq_true rfl) ?_
  simp -implicitDefEqProofs only [S67, S67_0, go_sem, Nat.reduceBEq, Nat.reduceAdd, Nat.reduceSub, Nat.reduceMul, Nat.reduceLeDiff, reduceCtorEq, ↓reduceIte, Int.reduceLT, Int.reduceLE, Int.reduceEq, Int.reduceNe]
  intro b1
  refine CallVC.read (tree_leaf _ _ _ _ _) ?_
  rintro v Γ' ⟨rfl, rfl⟩
  simp -implicitDefEqProofs only [go_sem, Nat.reduceBEq, Nat.reduceAdd, Nat.reduceSub, Nat.reduceMul, Nat.reduceLeDiff, reduceCtorEq, ↓reduceIte, Int.reduceLT, Int.reduceLE, Int.reduceEq, Int.reduceNe]
  refine ⟨fun h => Up.here ?_, fun h => ?_⟩
  · subst hR
    exact ⟨rfl, by rw [szT_eq, if_pos h]; rfl⟩
  have hn1 := numT_eq x
  have hlen := numL_len x.kids
  refine s_loop (fun f vs Γ => Γ = [] ∧ ∃ k : Nat, vs = [.v true (.int .i64 (1 + szL (x.kids.take k) : Nat)), .v true (.int .i64 k)] ∧ k + f = x.kids.length) x.kids.length (Up.here ⟨rfl, 0, rfl, by omega⟩) ?_
  rintro f vs Γ ⟨rfl, k, rfl, hkf⟩
  simp -implicitDefEqProofs only [S67_1, go_sem, Nat.reduceBEq, Nat.reduceAdd, Nat.reduceSub, Nat.reduceMul, Nat.reduceLeDiff, reduceCtorEq, ↓reduceIte, Int.reduceLT, Int.reduceLE, Int.reduceEq, Int.reduceNe]
  refine ⟨fun hlt => ?_, fun hge => ?_⟩
  · have hk : k < x.kids.length := by omega
    obtain ⟨b, o, hA, A', c', hs', hc⟩ := hx.tr hk
    have hm := List.getElem_mem hk
    have hst : szL (x.kids.take (k + 1)) = szL (x.kids.take k) + szT x.kids[k] := by
      rw [List.take_succ_eq_append_getElem hk, szL_append]
      simp [szL]
    have hnk := numL_mem hm
    have hle : numL (x.kids.take k) + numT x.kids[k] ≤ numL x.kids := by
      have h1 : numL (x.kids.take (k + 1)) = numL (x.kids.take k) + numT x.kids[k] := by
        rw [List.take_succ_eq_append_getElem hk, numL_append]
        simp [numL]
      have h2 := numL_append (x.kids.take (k + 1)) (x.kids.drop (k + 1))
      rw [List.take_append_drop] at h2
      omega
    have hs1 : szL (x.kids.take k) ≤ numL (x.kids.take k) := szL_le fun y _ => szT_le y
    have hs2 := szT_le x.kids[k]
    refine s_idx hA (by omega) (by omega) ?_
    simp -implicitDefEqProofs only [go_sem, Nat.reduceBEq, Nat.reduceAdd, Nat.reduceSub, Nat.reduceMul, Nat.reduceLeDiff, reduceCtorEq, ↓reduceIte, Int.reduceLT, Int.reduceLE, Int.reduceEq, Int.reduceNe]
    refine s_ld0 (hc _ (Mem.le.refl _)) (by simp) (by simp) ?_
    simp -implicitDefEqProofs only [go_sem, Nat.reduceBEq, Nat.reduceAdd, Nat.reduceSub, Nat.reduceMul, Nat.reduceLeDiff, reduceCtorEq, ↓reduceIte, Int.reduceLT, Int.reduceLE, Int.reduceEq, Int.reduceNe]
    intro b5
    refine CallVC.read (ih _ hm hs' (by omega)) ?_
    rintro v Γ' ⟨rfl, rfl⟩
    simp -implicitDefEqProofs only [go_sem, Nat.reduceBEq, Nat.reduceAdd, Nat.reduceSub, Nat.reduceMul, Nat.reduceLeDiff, reduceCtorEq, ↓reduceIte, Int.reduceLT, Int.reduceLE, Int.reduceEq, Int.reduceNe]
    simp (disch := omega) only [wrap_id]
    exact ⟨f - 1, by omega, Up.here ⟨rfl, k + 1, by rw [hst]; congr 3; omega, by omega⟩⟩
  · have hk : k = x.kids.length := by omega
    rw [hk, List.take_length]
    refine Up.here ?_
    subst hR
    exact ⟨rfl, by rw [szT_eq, if_neg h]⟩
end Go.Proofs.Ytniobbepliknmaa.V
/- The text of parlance/draw.Number as a statement (slots: 0 n, 1 coins, 2 n, 3 coins, 7 bits, 8 used, 9 x, 10 _, 11 c); no condition. -/
namespace Go.Proofs.Ytniobbepliknmaa.V
open Go
def S21_1 : Stmt :=
 .seq
 (.seq
 (.region
 [.mk (some 18) none (.mv (.tmp 7)),
 .mk (some 19) none (.ishift .shl (.const (.int .i64 1)) (.tmp 18)),
 .mk (some 20) none (.mv (.tmp 0)),
 .mk (some 21) none (.ibin .lss (.tmp 19) (.tmp 20))]
 [0,1,7,21])
 (.cond (.tmp 21) .skip (.exit 0)))
 (.block 1
 (.region
 [.mk (some 22) none (.mv (.tmp 7)),
 .mk (some 23) none (.ibin .add (.tmp 22) (.const (.int .i64 1))),
 .mk (some 7) none (.mv (.tmp 23))]
 [0,1,7]))
def S21_2 : Stmt :=
 .block 5
 (.seq
 (.region
 [.mk (some 39) none (.idx 1 (.tmp 35) (.tmp 37)),
 .mk (some 40) none (.load false 1 (.tmp 39)),.mk (some 11) none (.mv (.tmp 40))]
 [0,1,7,8,9,11,35,36,37])
 (.seq
 (.region
 [.mk (some 41) none (.mv (.tmp 9)),
 .mk (some 42) none (.ibin .mul (.tmp 41) (.const (.int .i64 2))),
 .mk (some 9) none (.mv (.tmp 42))]
 [0,1,7,8,9,11,35,36,37])
 (.seq (.region [.mk (some 43) none (.mv (.tmp 11))] [0,1,7,8,9,35,36,37,43])
 (.cond (.tmp 43)
 (.region
 [.mk (some 44) none (.mv (.tmp 9)),
 .mk (some 45) none (.ibin .add (.tmp 44) (.const (.int .i64 1))),
 .mk (some 9) none (.mv (.tmp 45))]
 [0,1,7,8,9,35,36,37])
 .skip))))
def S21_3 : Stmt :=
 .region
 [.mk (some 46) none (.ibin .add (.tmp 37) (.const (.int .i64 1))),
 .mk (some 37) none (.mv (.tmp 46))]
 [0,1,7,8,9,35,36,37]
def S21_4 : Stmt :=
 .seq
 (.region [.mk (some 38) none (.ibin .lss (.tmp 37) (.tmp 36))]
 [0,1,7,8,9,35,36,37,38])
 (.seq (.cond (.tmp 38) .skip (.exit 4)) (.join S21_2 S21_3 [9] [0,1,7,8,35,36,37]))
def S21_5 : Stmt :=
 .seq
 (.seq
 (.region
 [.mk (some 24) none (.mv (.tmp 8)),.mk (some 25) none (.mv (.tmp 7)),
 .mk (some 26) none (.ibin .add (.tmp 24) (.tmp 25)),
 .mk (some 27) none (.mv (.tmp 1)),.mk (some 28) none (.len false (.tmp 27)),
 .mk (some 29) none (.ibin .leq (.tmp 26) (.tmp 28))]
 [0,1,7,8,29])
 (.cond (.tmp 29) .skip (.exit 2)))
 (.block 3
 (.seq (.region [.mk (some 9) none (.mv (.const (.int .i64 0)))] [0,1,7,8,9])
 (.seq
 (.seq
 (.region
 [.mk (some 30) none (.mv (.tmp 1)),.mk (some 31) none (.mv (.tmp 8)),
 .mk (some 32) none (.mv (.tmp 8)),.mk (some 33) none (.mv (.tmp 7)),
 .mk (some 34) none (.ibin .add (.tmp 32) (.tmp 33)),
 .mk (some 35) none (.slc 1 (.tmp 30) (some (.tmp 31)) (some (.tmp 34)) none),
 .mk (some 36) none (.len false (.tmp 35)),
 .mk (some 37) none (.mv (.const (.int .i64 0)))]
 [0,1,7,8,9,35,36,37])
 (.block 4 (.loop S21_4 [9,37] [0,1,7,8,35,36])))
 (.seq
 (.region
 [.mk (some 47) none (.mv (.tmp 8)),.mk (some 48) none (.mv (.tmp 7)),
 .mk (some 49) none (.ibin .add (.tmp 47) (.tmp 48)),
 .mk (some 8) none (.mv (.tmp 49))]
 [0,1,7,8,9])
 (.seq
 (.region
 [.mk (some 50) none (.mv (.tmp 9)),.mk (some 51) none (.mv (.tmp 0)),
 .mk (some 52) none (.ibin .lss (.tmp 50) (.tmp 51))]
 [0,1,7,8,9,52])
 (.cond (.tmp 52)
 (.seq
 (.region
 [.mk (some 53) none (.mv (.tmp 9)),.mk (some 54) none (.mv (.tmp 8)),
 .mk (some 4) none (.mv (.tmp 53)),.mk (some 5) none (.mv (.tmp 54)),
 .mk (some 6) none (.mv (.const (.int .i64 0)))]
 [4,5,6])
 .ret)
 .skip))))))
def S21_0 : Stmt :=
 .seq
 (.region
 [.mk (some 4) none (.mv (.const (.int .i64 0))),
 .mk (some 5) none (.mv (.const (.int .i64 0))),
 .mk (some 6) none (.mv (.const (.int .i64 0)))]
 [0,1])
 (.seq
 (.seq
 (.region
 [.mk (some 12) none (.mv (.tmp 0)),
 .mk (some 13) none (.ibin .lss (.tmp 12) (.const (.int .i64 1))),
 .mk (some 14) none (.mv (.tmp 13)),
 .mk (some 15) (some (14,false)) (.mv (.tmp 0)),
 .mk (some 16) (some (14,false))
 (.ibin .gtr (.tmp 15) (.const (.int .i64 1000000000))),
 .mk (some 17) none (.pick (.tmp 14) (.const (.bool true)) (.tmp 16))]
 [0,1,17])
 (.cond (.tmp 17)
 (.seq
 (.region
 [.mk (some 4) none (.mv (.const (.int .i64 0))),
 .mk (some 5) none (.mv (.const (.int .i64 0))),
 .mk (some 6) none (.mv (.const (.int .i64 1)))]
 [4,5,6])
 .ret)
 .skip))
 (.seq (.region [.mk (some 7) none (.mv (.const (.int .i64 0)))] [0,1,7])
 (.seq (.block 0 (.loop S21_1 [7] [0,1]))
 (.seq
 (.seq
 (.region [.mk (some 8) none (.mv (.const (.int .i64 0)))] [0,1,7,8])
 (.block 2 (.loop S21_5 [8] [0,1,7])))
 (.seq
 (.region
 [.mk (some 4) none (.mv (.const (.int .i64 0))),
 .mk (some 5) none (.mv (.const (.int .i64 0))),
 .mk (some 6) none (.mv (.const (.int .i64 5)))]
 [4,5,6])
 .ret)))))
def S21 : FnS := ⟨55,[(4,none),(5,none),(6,none)],S21_0⟩
theorem tr21 : trFn Try.prog 21 [] [[0,1],[0,1,17],[4,5,6],[0,1,7],[7],[0,1],[0,1,7,21],[0,1,7],[0,1,7,8],[8],[0,1,7],[0,1,7,8,29],[0,1,7,8,9],[0,1,7,8,9,35,36,37],[9,37],[0,1,7,8,35,36],[0,1,7,8,9,35,36,37,38],[9],[0,1,7,8,35,36,37],[0,1,7,8,9,11,35,36,37],[0,1,7,8,9,11,35,36,37],[0,1,7,8,9,35,36,37,43],[0,1,7,8,9,35,36,37],[0,1,7,8,9,35,36,37],[0,1,7,8,9],[0,1,7,8,9,52],[4,5,6],[4,5,6]] = some S21 := by kernel_rfl
end Go.Proofs.Ytniobbepliknmaa.V
/- The text of parlance/parlref5.Coins as a statement (slots: 0 n, 1 coins, 2 n, 3 coins, 7 k, 8 p, 9 i, 10 part, 11 x, 12 j); no condition. -/
namespace Go.Proofs.Ytniobbepliknmaa.V
open Go
def S22_1 : Stmt :=
 .seq
 (.seq
 (.region
 [.mk (some 13) none (.mv (.tmp 8)),.mk (some 14) none (.mv (.tmp 0)),
 .mk (some 15) none (.ibin .lss (.tmp 13) (.tmp 14))]
 [0,1,7,8,15])
 (.cond (.tmp 15) .skip (.exit 0)))
 (.seq
 (.block 1
 (.region
 [.mk (some 18) none (.mv (.tmp 7)),
 .mk (some 19) none (.ibin .add (.tmp 18) (.const (.int .i64 1))),
 .mk (some 7) none (.mv (.tmp 19))]
 [0,1,7,8]))
 (.region
 [.mk (some 16) none (.mv (.tmp 8)),
 .mk (some 17) none (.ibin .mul (.tmp 16) (.const (.int .i64 2))),
 .mk (some 8) none (.mv (.tmp 17))]
 [0,1,7,8]))
def S22_2 : Stmt :=
 .block 5
 (.seq
 (.region [.mk (some 40) none (.mv (.tmp 38)),.mk (some 12) none (.mv (.tmp 40))]
 [0,1,7,9,10,11,12,37,38])
 (.seq
 (.region
 [.mk (some 41) none (.mv (.tmp 10)),.mk (some 42) none (.mv (.tmp 12)),
 .mk (some 43) none (.idx 1 (.tmp 41) (.tmp 42)),
 .mk (some 44) none (.load false 1 (.tmp 43))]
 [0,1,7,9,10,11,12,37,38,44])
 (.cond (.tmp 44)
 (.region
 [.mk (some 45) none (.mv (.tmp 11)),.mk (some 46) none (.mv (.tmp 7)),
 .mk (some 47) none (.ibin .sub (.tmp 46) (.const (.int .i64 1))),
 .mk (some 48) none (.mv (.tmp 12)),
 .mk (some 49) none (.ibin .sub (.tmp 47) (.tmp 48)),
 .mk (some 50) none (.ishift .shl (.const (.int .i64 1)) (.tmp 49)),
 .mk (some 51) none (.ibin .add (.tmp 45) (.tmp 50)),
 .mk (some 11) none (.mv (.tmp 51))]
 [0,1,7,9,10,11,37,38])
 .skip)))
def S22_3 : Stmt :=
 .region
 [.mk (some 52) none (.ibin .add (.tmp 38) (.const (.int .i64 1))),
 .mk (some 38) none (.mv (.tmp 52))]
 [0,1,7,9,10,11,37,38]
def S22_4 : Stmt :=
 .seq
 (.region [.mk (some 39) none (.ibin .lss (.tmp 38) (.tmp 37))]
 [0,1,7,9,10,11,37,38,39])
 (.seq (.cond (.tmp 39) .skip (.exit 4)) (.join S22_2 S22_3 [11] [0,1,7,9,10,37,38]))
def S22_5 : Stmt :=
 .seq
 (.seq
 (.region
 [.mk (some 20) none (.mv (.tmp 9)),.mk (some 21) none (.mv (.tmp 7)),
 .mk (some 22) none (.ibin .mul (.tmp 20) (.tmp 21)),
 .mk (some 23) none (.mv (.tmp 1)),.mk (some 24) none (.len false (.tmp 23)),
 .mk (some 25) none (.ibin .leq (.tmp 22) (.tmp 24))]
 [0,1,7,9,25])
 (.cond (.tmp 25) .skip (.exit 2)))
 (.seq
 (.block 3
 (.seq
 (.region
 [.mk (some 28) none (.mv (.tmp 1)),.mk (some 29) none (.mv (.tmp 9)),
 .mk (some 30) none (.mv (.tmp 7)),
 .mk (some 31) none (.ibin .mul (.tmp 29) (.tmp 30)),
 .mk (some 32) none (.slc 1 (.tmp 28) (some (.tmp 31)) none none),
 .mk (some 10) none (.mv (.tmp 32))]
 [0,1,7,9,10])
 (.seq
 (.seq
 (.region
 [.mk (some 33) none (.mv (.tmp 10)),
 .mk (some 34) none (.len false (.tmp 33)),
 .mk (some 35) none (.mv (.tmp 7)),
 .mk (some 36) none (.ibin .lss (.tmp 34) (.tmp 35))]
 [0,1,7,9,10,36])
 (.cond (.tmp 36)
 (.seq
 (.region
 [.mk (some 4) none (.mv (.const (.int .i64 0))),
 .mk (some 5) none (.mv (.const (.int .i64 0))),
 .mk (some 6) none (.mv (.const (.bool false)))]
 [4,5,6])
 .ret)
 .skip))
 (.seq
 (.region [.mk (some 11) none (.mv (.const (.int .i64 0)))]
 [0,1,7,9,10,11])
 (.seq
 (.seq
 (.region
 [.mk (some 37) none (.mv (.tmp 7)),
 .mk (some 38) none (.mv (.const (.int .i64 0)))]
 [0,1,7,9,10,11,37,38])
 (.block 4 (.loop S22_4 [11,38] [0,1,7,9,10,37])))
 (.seq
 (.region
 [.mk (some 53) none (.mv (.tmp 11)),.mk (some 54) none (.mv (.tmp 0)),
 .mk (some 55) none (.ibin .lss (.tmp 53) (.tmp 54))]
 [0,1,7,9,11,55])
 (.cond (.tmp 55)
 (.seq
 (.region
 [.mk (some 56) none (.mv (.tmp 11)),
 .mk (some 57) none (.mv (.tmp 9)),
 .mk (some 58) none
 (.ibin .add (.tmp 57) (.const (.int .i64 1))),
 .mk (some 59) none (.mv (.tmp 7)),
 .mk (some 60) none (.ibin .mul (.tmp 58) (.tmp 59)),
 .mk (some 4) none (.mv (.tmp 56)),
 .mk (some 5) none (.mv (.tmp 60)),
 .mk (some 6) none (.mv (.const (.bool true)))]
 [4,5,6])
 .ret)
 .skip)))))))
 (.region
 [.mk (some 26) none (.mv (.tmp 9)),
 .mk (some 27) none (.ibin .add (.tmp 26) (.const (.int .i64 1))),
 .mk (some 9) none (.mv (.tmp 27))]
 [0,1,7,9]))
def S22_0 : Stmt :=
 .seq
 (.region
 [.mk (some 4) none (.mv (.const (.int .i64 0))),
 .mk (some 5) none (.mv (.const (.int .i64 0))),
 .mk (some 6) none (.mv (.const (.bool false)))]
 [0,1])
 (.seq (.region [.mk (some 7) none (.mv (.const (.int .i64 0)))] [0,1,7])
 (.seq
 (.seq (.region [.mk (some 8) none (.mv (.const (.int .i64 1)))] [0,1,7,8])
 (.block 0 (.loop S22_1 [7,8] [0,1])))
 (.seq
 (.seq (.region [.mk (some 9) none (.mv (.const (.int .i64 0)))] [0,1,7,9])
 (.block 2 (.loop S22_5 [9] [0,1,7])))
 (.seq
 (.region
 [.mk (some 4) none (.mv (.const (.int .i64 0))),
 .mk (some 5) none (.mv (.const (.int .i64 0))),
 .mk (some 6) none (.mv (.const (.bool false)))]
 [4,5,6])
 .ret))))
def S22 : FnS := ⟨61,[(4,none),(5,none),(6,none)],S22_0⟩
theorem tr22 : trFn Try.prog 22 [] [[0,1],[0,1,7],[0,1,7,8],[7,8],[0,1],[0,1,7,8,15],[0,1,7,8],[0,1,7,8],[0,1,7,9],[9],[0,1,7],[0,1,7,9,25],[0,1,7,9,10],[0,1,7,9,10,36],[4,5,6],[0,1,7,9,10,11],[0,1,7,9,10,11,37,38],[11,38],[0,1,7,9,10,37],[0,1,7,9,10,11,37,38,39],[11],[0,1,7,9,10,37,38],[0,1,7,9,10,11,12,37,38],[0,1,7,9,10,11,12,37,38,44],[0,1,7,9,10,11,37,38],[0,1,7,9,10,11,37,38],[0,1,7,9,11,55],[4,5,6],[0,1,7,9],[4,5,6]] = some S22 := by kernel_rfl
end Go.Proofs.Ytniobbepliknmaa.V
namespace Go.Proofs.Ytniobbepliknmaa.V
open Go
set_option linter.unusedVariables false
set_option linter.unusedSimpArgs false
/- Numbers by coins: the plain law of draw.Number and parlref5.Coins, and both walked; no condition. -/
attribute [local go_sem] e_seq e_region e_quiet e_join e_loop e_cond e_block e_exit e_ret e_skip e_fin e_kseq e_snrm e_sret e_sex e_bnrm e_bret e_bex e_rnrm e_rret e_res e_condC e_nil e_g e_mv g_mv e_pick g_pick pickC_eq e_ibin g_ibin ibinC_eq e_sbin g_sbin e_beq g_beq beqC_eq e_nilq g_nilq nilqC_sl nilqC_pt nilqC_mp e_un g_un unC_not unC_neg e_conv g_conv convC_eq e_fld g_fld fldC_ref fldC_ptr e_nilCheck g_nilCheck nilCheckC_ref nilCheckC_ptr nilCheckC_fun e_field g_field fieldC_eq e_len g_len lenC_sl lenC_str e_extract g_extract extractC_eq e_mkFunc e_build g_build e_idiv g_idiv idivC_eq e_ishift g_ishift ishiftC_eq e_idx g_idx e_idxA g_idxA e_load g_load e_loadB g_loadB atB_ref atB_v g_mkFunc loadC_ref loadC_ptr loadB_eq e_slc g_slc e_box boxC_loc boxC_esc e_alloc allocC_loc allocC_esc e_buildS e_store storeC_ref storeC_ptr storeB_eq e_append e_appz e_mk mkC_eq e_call callC_eq e_fn g_fn fnC_eq fnV_min' fnV_max' fnV_rune' e_q g_q e_a e_n g_call g_box g_alloc g_buildS g_store g_append g_mk g_a g_n g_dead e_dead e_callK e_drawn e_tree e_finJ e_tk e_tfin e_tno e_nbt_q e_nbt_qn e_nbt_a e_nbt_an e_nbt_fin e_drawnB e_bxb_nil e_bxb e_stB_none e_stB_some boxSt_store bs_mv bs_pick bs_ibin bs_idiv bs_ishift bs_sbin bs_beq bs_nilq bs_un bs_conv bs_box bs_alloc bs_build bs_buildS bs_load bs_fld bs_nilCheck bs_idx bs_idxA bs_field bs_slc bs_len bs_append bs_appz bs_mk bs_call bs_extract bs_mkFunc bs_fn bs_q bs_a bs_n bs_loadB bs_dead isBox_box e_early_nil e_early_t e_early_f e_nob_nil e_nob_none e_nob_some isBox_dead isBox_v isBox_ref e_dnil e_dk e_ek e_finB vcOps_vc1 e_dcons e_tq e_ekt e_tearly e_talt e_dearly look_nil look_c proj_nil proj_c looks_nil looks_c zip_nil zip_c val_tmp val_const val_func slv_v slv_box slv_ref slot_tmp slot_const slot_func slotL_v slotL_box slotL_ref put_some put_none updBox_c boxSet_box gd_eq slotVals_nil slotVals_c slotVals_b boxV_box boxOn_box slotsOn_nil slotsOn_c slotsOn_b resV_one resV_two vals_nil vals_c allOn_nil allOn_c partOn_nil partOn_c partVals_nil partVals_c fits_nil fits_c fillL_nil fillL_c mkv_one mkv_agg cellsV_agg cellsV_int cellsV_bool cellsV_slice cellsV_string cellsV_pointer cellsV_func cellsV_nilf cellsV_map one'_nil one'_c oc_int oc_bool oc_slice oc_string oc_pointer oc_func oc_nilf oc_map setC_eq iv_add iv_sub iv_mul iv_eql iv_neq iv_lss iv_leq iv_gtr iv_geq iok_add iok_sub iok_mul iok_eql iok_neq iok_lss iok_leq iok_gtr iok_geq pickV_bool args0_nil args0_c bnd_none bnd_some imp_bt imp_bf imp_ebt imp_ebf imp_eb1 imp_np imp_pp beq_tt beq_tf beq_ft beq_ff cond_or cond_and e_round e_meet Int.le_refl Int.toNat_zero decide_true decide_false Bool.or_false Bool.false_or Bool.true_or Bool.or_true Bool.and_false Bool.false_and Bool.bne_false Bool.bne_true beq_iff_eq Int.cast_ofNat_Int not_false_eq_true not_true_eq_false false_and and_false false_implies true_implies true_and and_true Bool.true_and Bool.and_true Bool.not_true Bool.not_false forall_const implies_true List.take_zero List.drop_zero List.take_succ_cons List.drop_succ_cons List.take_nil List.drop_nil List.length_cons List.length_nil List.nil_append List.append_nil List.cons_append Int.toNat_natCast decide_eq_true_eq decide_eq_false_iff_not cond_true cond_false and_self List.getElem?_cons_zero List.getElem?_cons_succ List.set_cons_zero List.set_cons_succ Option.some.injEq exists_eq_left' Nat.zero_add Nat.add_zero Nat.mul_one imp_self true_or or_true or_false false_or Bool.or_eq_true Bool.or_eq_false_iff Bool.and_eq_true Bool.and_eq_false_iff Bool.not_eq_true' Bool.not_eq_false'

/-- the number that coins tell, the first one being worth most -/
def bval (l : List Bool) : Nat := l.foldl (fun x c => 2 * x + c.toNat) 0
def coinsG (n b : Nat) (coins : List Bool) : Nat → Nat → Option (Nat × Nat)
  | 0, _ => none
  | f + 1, used => if used + b ≤ coins.length then
      (if bval ((coins.drop used).take b) < n then some (bval ((coins.drop used).take b), used + b) else coinsG n b coins f (used + b)) else none
/-- how many coins tell a number below n -/
def bitsG (n : Nat) : Nat → Nat → Nat
  | 0, b => b
  | f + 1, b => if 2 ^ b < n then bitsG n f (b + 1) else b
def coinsF (n : Nat) (coins : List Bool) : Option (Nat × Nat) := coinsG n (bitsG n 40 0) coins (coins.length + 1) 0

theorem bval_snoc (l : List Bool) (c : Bool) : bval (l ++ [c]) = 2 * bval l + c.toNat := by simp [bval]
theorem bval_lt (l : List Bool) : bval l < 2 ^ l.length := by
  suffices h : ∀ (l : List Bool) (x : Nat), l.foldl (fun x c => 2 * x + c.toNat) x < (x + 1) * 2 ^ l.length by simpa [bval] using h l 0
  intro l
  induction l with
  | nil => intro x; simp
  | cons c l ih =>
    intro x
    have h := ih (2 * x + c.toNat)
    have hc : c.toNat ≤ 1 := by cases c <;> simp
    simp only [List.foldl_cons, List.length_cons]
    refine Nat.lt_of_lt_of_le h ?_
    rw [Nat.pow_succ, Nat.mul_comm (2 ^ l.length) 2, ← Nat.mul_assoc]
    exact Nat.mul_le_mul_right _ (by omega)

theorem shl_one (b : Nat) (hb : b ≤ 40) : ishiftV .shl .i64 1 (b : Int) = .int .i64 ((2 ^ b : Nat) : Int) := by
  have h1 : min (b : Int).toNat IntKind.i64.bits = b := by
    have : IntKind.i64.bits = 64 := rfl
    rw [this]; omega
  have h2 : (2 : Nat) ^ b ≤ 2 ^ 40 := Nat.pow_le_pow_right (by omega) hb
  simp only [ishiftV, h1, Int.one_mul]
  rw [wrap_id]
  · simp
  · have : (0 : Int) ≤ ((2 ^ b : Nat) : Int) := Int.natCast_nonneg _
    simp at this ⊢; omega
  · have h3 : ((2 ^ b : Nat) : Int) ≤ ((2 ^ 40 : Nat) : Int) := by exact_mod_cast h2
    simp at h3 ⊢; omega

theorem draw_number {Γr : Ctx} (n : Int) (A : Option Addr) (c : Nat) (coins : List Bool) (hc : SlOk (lk Γr) A c coins) :
    Ret Try.prog 21 [.int .i64 n, .slice A coins.length c] Γr [] (fun v Γ => Γ = [] ∧
      v = if n < 1 ∨ 1000000000 < n then .tuple #[.int .i64 0, .int .i64 0, .int .i64 1] else
        match coinsF n.toNat coins with
        | some (x, u) => .tuple #[.int .i64 x, .int .i64 u, .int .i64 0]
        | none => .tuple #[.int .i64 0, .int .i64 0, .int .i64 5]) := by
  generalize hR : (fun v Γ => Γ = [] ∧ v = _) = R
  refine ret_of_vc tr21 (Nat.le_of_ble_eq_true rfl) ?_
  simp only [S21, S21_0, go_sem, Nat.reduceBEq, Nat.reduceAdd, Nat.reduceSub, Nat.reduceMul, Nat.reduceLeDiff, reduceCtorEq, ↓reduceIte, Int.reduceLT, Int.reduceLE, Int.reduceEq, Int.reduceNe]
  refine ⟨fun h => Up.here ?_, fun hn => ?_⟩
  · subst hR
    rw [if_pos h]
    exact ⟨rfl, rfl⟩
  have hno : ¬ (n < 1 ∨ 1000000000 < n) := by omega
  obtain ⟨m, rfl⟩ : ∃ m : Nat, n = m := ⟨n.toNat, by omega⟩
  have hlen := hc.short
  have hm40 : m ≤ 2 ^ 40 := by omega
  -- how many bits
  refine s_loop (fun f vs Γ => Γ = [] ∧ ∃ b : Nat, vs = [.v true (.int .i64 b)] ∧ b + f = 40 ∧ bitsG m f b = bitsG m 40 0) 40 (Up.here ⟨rfl, 0, rfl, rfl, rfl⟩) ?_
  rintro f vs Γ ⟨rfl, b, rfl, hbf, hb⟩
  simp only [S21_1, go_sem, Nat.reduceBEq, Nat.reduceAdd, Nat.reduceSub, Nat.reduceMul, Nat.reduceLeDiff, reduceCtorEq, ↓reduceIte, Int.reduceLT, Int.reduceLE, Int.reduceEq, Int.reduceNe]
  have hb40 : b ≤ 40 := by omega
  rw [shl_one b hb40]
  simp only [go_sem, Nat.reduceBEq, Nat.reduceAdd, Nat.reduceSub, Nat.reduceMul, Nat.reduceLeDiff, reduceCtorEq, ↓reduceIte, Int.reduceLT, Int.reduceLE, Int.reduceEq, Int.reduceNe]
  refine ⟨by omega, fun hlt => ?_, fun hge => ?_⟩
  · have hf : f ≠ 0 := by
      intro h0
      subst h0
      have : b = 40 := by omega
      subst this
      omega
    obtain ⟨f, rfl⟩ := Nat.exists_eq_succ_of_ne_zero hf
    refine ⟨f, by omega, Up.here ⟨rfl, b + 1, ?_, by omega, ?_⟩⟩
    · rw [wrap_id (by omega) (by omega)]; rfl
    · rw [← hb]
      have : 2 ^ b < m := by exact_mod_cast hlt
      simp [bitsG, this]
  · have hbits : bitsG m 40 0 = b := by
      rw [← hb]
      have : ¬ 2 ^ b < m := by intro q; exact hge (by exact_mod_cast q)
      cases f <;> simp [bitsG, this]
    -- chunk after chunk
    refine s_loop (fun f vs Γ => Γ = [] ∧ ∃ used : Nat, vs = [.v true (.int .i64 used)] ∧ used ≤ coins.length ∧ coins.length < f + used ∧ coinsG m b coins f used = coinsF m coins) (coins.length + 1)
      (Up.here ⟨rfl, 0, rfl, by omega, by omega, by rw [coinsF, hbits]⟩) ?_
    rintro f vs Γ ⟨rfl, used, rfl, hu, hfu, hres⟩
    simp only [S21_5, go_sem, Nat.reduceBEq, Nat.reduceAdd, Nat.reduceSub, Nat.reduceMul, Nat.reduceLeDiff, reduceCtorEq, ↓reduceIte, Int.reduceLT, Int.reduceLE, Int.reduceEq, Int.reduceNe]
    obtain ⟨f, rfl⟩ : ∃ k, f = k + 1 := ⟨f - 1, by omega⟩
    rw [wrap_id (by omega) (by omega)]
    simp only [coinsG] at hres
    refine ⟨fun hle => ?_, fun hgt => ?_⟩
    · have hle' : used + b ≤ coins.length := by omega
      rw [if_pos hle'] at hres
      refine s_slice used (used + b) ?_ ?_ (by omega) (by have := hc.cap; omega) ?_
      · simp only [go_sem, Nat.reduceBEq, Nat.reduceAdd, Nat.reduceSub, Nat.reduceMul, Nat.reduceLeDiff, reduceCtorEq, ↓reduceIte, Int.reduceLT, Int.reduceLE, Int.reduceEq, Int.reduceNe]
        exact ⟨.i64, rfl⟩
      · simp only [go_sem, Nat.reduceBEq, Nat.reduceAdd, Nat.reduceSub, Nat.reduceMul, Nat.reduceLeDiff, reduceCtorEq, ↓reduceIte, Int.reduceLT, Int.reduceLE, Int.reduceEq, Int.reduceNe]
        exact ⟨.i64, by simp⟩
      simp only [go_sem, Nat.reduceBEq, Nat.reduceAdd, Nat.reduceSub, Nat.reduceMul, Nat.reduceLeDiff, reduceCtorEq, ↓reduceIte, Int.reduceLT, Int.reduceLE, Int.reduceEq, Int.reduceNe]
      have hsl := hc.slice (l := used) (m := used + b) (by omega) hle'
      have hck : (coins.take (used + b)).drop used = (coins.drop used).take b := by
        rw [← List.take_drop]
      rw [hck] at hsl
      obtain ⟨ch, hch⟩ : ∃ ch, ch = (coins.drop used).take b := ⟨_, rfl⟩
      have hcl : ch.length = b := by rw [hch]; simp; omega
      rw [← hch] at hsl hres
      obtain ⟨A', hA'⟩ : ∃ A', A' = (if c = used then A else A.map (fun x => x.add used)) := ⟨_, rfl⟩
      have hsl' : SlOk (lk Γr) A' (c - used) ch := by rw [hA']; simpa [Rep.sz] using hsl
      rw [← hA', show used + b - used = b by omega]
      -- the number that the chunk tells
      refine s_loop (fun g vs Γ => Γ = [] ∧ ∃ j : Nat, vs = [.v true (.int .i64 (bval (ch.take j) : Nat)), .v true (.int .i64 j)] ∧ j + g = b) b
        (Up.here ⟨rfl, 0, by simp [bval, looks, look], by omega⟩) ?_
      rintro g vs Γ ⟨rfl, j, rfl, hjg⟩
      have hbv := bval_lt (ch.take j)
      have hb2 : 2 ^ (ch.take j).length ≤ 2 ^ 40 := Nat.pow_le_pow_right (by omega) (by simp; omega)
      simp only [S21_4, go_sem, Nat.reduceBEq, Nat.reduceAdd, Nat.reduceSub, Nat.reduceMul, Nat.reduceLeDiff, reduceCtorEq, ↓reduceIte, Int.reduceLT, Int.reduceLE, Int.reduceEq, Int.reduceNe]
      refine ⟨fun hlt => ?_, fun hge2 => ?_⟩
      · have hj : j < b := by omega
        have hjc : j < ch.length := by omega
        refine s_split ?_
        obtain ⟨bb, oo, rfl, cs, hok, hcells⟩ := hsl'.elem (i := j) (x := ch[j]) (List.getElem?_eq_getElem hjc)
        obtain rfl := ok_bool hok
        simp only [S21_2, S21_3, go_sem, Nat.reduceBEq, Nat.reduceAdd, Nat.reduceSub, Nat.reduceMul, Nat.reduceLeDiff, reduceCtorEq, ↓reduceIte, Int.reduceLT, Int.reduceLE, Int.reduceEq, Int.reduceNe]
        refine s_idx rfl (by omega) (by omega) ?_
        simp only [go_sem, Nat.reduceBEq, Nat.reduceAdd, Nat.reduceSub, Nat.reduceMul, Nat.reduceLeDiff, reduceCtorEq, ↓reduceIte, Int.reduceLT, Int.reduceLE, Int.reduceEq, Int.reduceNe]
        refine s_load (vs := [.bool ch[j]]) (by simpa [Rep.sz] using hcells _ (Mem.le.refl _)) ?_
        simp only [go_sem, Nat.reduceBEq, Nat.reduceAdd, Nat.reduceSub, Nat.reduceMul, Nat.reduceLeDiff, reduceCtorEq, ↓reduceIte, Int.reduceLT, Int.reduceLE, Int.reduceEq, Int.reduceNe]
        have w1 : IntKind.i64.wrap (((bval (ch.take j) : Nat) : Int) * 2) = ((bval (ch.take j) : Nat) : Int) * 2 := wrap_id (by omega) (by omega)
        have w2 : IntKind.i64.wrap (((bval (ch.take j) : Nat) : Int) * 2 + 1) = ((bval (ch.take j) : Nat) : Int) * 2 + 1 := wrap_id (by omega) (by omega)
        have w3 : IntKind.i64.wrap ((j : Int) + 1) = (j : Int) + 1 := wrap_id (by omega) (by omega)
        simp only [w1, w2, w3]
        have htake : ch.take (j + 1) = ch.take j ++ [ch[j]] := by rw [List.take_succ_eq_append_getElem hjc]
        have hstep : bval (ch.take (j + 1)) = 2 * bval (ch.take j) + ch[j].toNat := by rw [htake, bval_snoc]
        refine ⟨fun ht => ?_, fun ht => ?_⟩
        · refine Up.here ⟨g - 1, by omega, Up.here ⟨rfl, j + 1, ?_, by omega⟩⟩
          rw [hstep, ht]
          simp
          omega
        · refine Up.here ⟨g - 1, by omega, Up.here ⟨rfl, j + 1, ?_, by omega⟩⟩
          rw [hstep, ht]
          simp
          omega
      · have hj : j = b := by omega
        subst hj
        have htk : ch.take j = ch := by rw [← hcl]; exact List.take_length
        rw [htk]
        rw [wrap_id (by omega) (by omega)]
        refine ⟨fun hlt => ?_, fun hge3 => ?_⟩
        · have : bval ch < m := by exact_mod_cast hlt
          rw [if_pos this] at hres
          refine Up.here ?_
          subst hR
          refine ⟨rfl, ?_⟩
          rw [if_neg hno]
          simp [← hres]
        · have : ¬ bval ch < m := by intro q; exact hge3 (by exact_mod_cast q)
          rw [if_neg this] at hres
          have hjpos : 0 < j := by
            rcases Nat.eq_zero_or_pos j with q | q
            · subst q
              have : ch = [] := List.eq_nil_of_length_eq_zero hcl
              subst this
              simp [bval] at hge3
              omega
            · exact q
          exact ⟨f, by omega, Up.here ⟨rfl, used + j, by simp, hle', by omega, hres⟩⟩
    · have hgt' : ¬ used + b ≤ coins.length := by omega
      rw [if_neg hgt'] at hres
      refine Up.here ?_
      subst hR
      refine ⟨rfl, ?_⟩
      rw [if_neg hno]
      simp [← hres]

theorem ref_coins {Γr : Ctx} (m : Nat) (hm0 : 1 ≤ m) (hm1 : m ≤ 1000000000) (A : Option Addr) (c : Nat) (coins : List Bool) (hc : SlOk (lk Γr) A c coins) :
    Ret Try.prog 22 [.int .i64 m, .slice A coins.length c] Γr [] (fun v Γ => Γ = [] ∧
      v = match coinsF m coins with
        | some (x, u) => .tuple #[.int .i64 x, .int .i64 u, .bool true]
        | none => .tuple #[.int .i64 0, .int .i64 0, .bool false]) := by
  generalize hR : (fun v Γ => Γ = [] ∧ v = _) = R
  refine ret_of_vc tr22 (Nat.le_of_ble_eq_true rfl) ?_
  simp only [S22, S22_0, go_sem, Nat.reduceBEq, Nat.reduceAdd, Nat.reduceSub, Nat.reduceMul, Nat.reduceLeDiff, reduceCtorEq, ↓reduceIte, Int.reduceLT, Int.reduceLE, Int.reduceEq, Int.reduceNe]
  have hlen := hc.short
  refine s_loop (fun f vs Γ => Γ = [] ∧ ∃ b : Nat, vs = [.v true (.int .i64 b), .v true (.int .i64 (2 ^ b : Nat))] ∧ b + f = 40 ∧ bitsG m f b = bitsG m 40 0) 40 (Up.here ⟨rfl, 0, rfl, rfl, rfl⟩) ?_
  rintro f vs Γ ⟨rfl, b, rfl, hbf, hb⟩
  have hb40 : b ≤ 40 := by omega
  have hpow : 2 ^ b ≤ 2 ^ 40 := Nat.pow_le_pow_right (by omega) hb40
  simp only [S22_1, go_sem, Nat.reduceBEq, Nat.reduceAdd, Nat.reduceSub, Nat.reduceMul, Nat.reduceLeDiff, reduceCtorEq, ↓reduceIte, Int.reduceLT, Int.reduceLE, Int.reduceEq, Int.reduceNe]
  refine ⟨fun hlt => ?_, fun hge => ?_⟩
  · have hlt' : 2 ^ b < m := by exact_mod_cast hlt
    have hf : f ≠ 0 := by
      intro h0
      subst h0
      have : b = 40 := by omega
      subst this
      omega
    obtain ⟨f, rfl⟩ := Nat.exists_eq_succ_of_ne_zero hf
    refine ⟨f, by omega, Up.here ⟨rfl, b + 1, ?_, by omega, ?_⟩⟩
    · have hq : IntKind.i64.wrap (((2 ^ b : Nat) : Int) * 2) = ((2 ^ (b + 1) : Nat) : Int) := by
        rw [Nat.pow_succ]
        obtain ⟨p, hp⟩ : ∃ p, p = 2 ^ b := ⟨_, rfl⟩
        rw [← hp] at hpow ⊢
        rw [wrap_id (by omega) (by omega)]
        rfl
      have hq2 : IntKind.i64.wrap ((b : Int) + 1) = ((b + 1 : Nat) : Int) := wrap_id (by omega) (by omega)
      rw [hq, hq2]
    · rw [← hb]
      simp [bitsG, hlt']
  · have hge' : ¬ 2 ^ b < m := by intro q; exact hge (by exact_mod_cast q)
    have hbits : bitsG m 40 0 = b := by
      rw [← hb]
      cases f <;> simp [bitsG, hge']
    refine s_loop (fun f vs Γ => Γ = [] ∧ ∃ i used : Nat, vs = [.v true (.int .i64 i)] ∧ used = i * b ∧ i ≤ used ∧ used ≤ coins.length ∧ coins.length < f + used ∧ coinsG m b coins f used = coinsF m coins) (coins.length + 1)
      (Up.here ⟨rfl, 0, 0, rfl, by omega, by omega, by omega, by omega, by rw [coinsF, hbits]⟩) ?_
    rintro f vs Γ ⟨rfl, i, used, rfl, hui, hiu, hu, hfu, hres⟩
    have wi : IntKind.i64.wrap ((i : Int) * (b : Int)) = (used : Int) := by
      have : (i : Int) * (b : Int) = (used : Int) := by rw [hui]; simp
      rw [this]
      exact wrap_id (by omega) (by omega)
    simp only [S22_5, wi, go_sem, Nat.reduceBEq, Nat.reduceAdd, Nat.reduceSub, Nat.reduceMul, Nat.reduceLeDiff, reduceCtorEq, ↓reduceIte, Int.reduceLT, Int.reduceLE, Int.reduceEq, Int.reduceNe]
    obtain ⟨f, rfl⟩ : ∃ k, f = k + 1 := ⟨f - 1, by omega⟩
    simp only [coinsG] at hres
    refine ⟨fun _ => ?_, fun hgt => by omega⟩
    refine s_slice used coins.length ?_ ?_ (by omega) hc.cap ?_
    · simp only [go_sem, Nat.reduceBEq, Nat.reduceAdd, Nat.reduceSub, Nat.reduceMul, Nat.reduceLeDiff, reduceCtorEq, ↓reduceIte, Int.reduceLT, Int.reduceLE, Int.reduceEq, Int.reduceNe]
      exact ⟨.i64, rfl⟩
    · simp only [go_sem, Nat.reduceBEq, Nat.reduceAdd, Nat.reduceSub, Nat.reduceMul, Nat.reduceLeDiff, reduceCtorEq, ↓reduceIte, Int.reduceLT, Int.reduceLE, Int.reduceEq, Int.reduceNe]
    simp only [go_sem, Nat.reduceBEq, Nat.reduceAdd, Nat.reduceSub, Nat.reduceMul, Nat.reduceLeDiff, reduceCtorEq, ↓reduceIte, Int.reduceLT, Int.reduceLE, Int.reduceEq, Int.reduceNe]
    have hsl := hc.slice (l := used) (m := coins.length) (by omega) (Nat.le_refl _)
    rw [List.take_length] at hsl
    refine ⟨fun hshort => ?_, fun hlong => ?_⟩
    · have : ¬ used + b ≤ coins.length := by omega
      rw [if_neg this] at hres
      refine Up.here ?_
      subst hR
      exact ⟨rfl, by simp [← hres]⟩
    have hle' : used + b ≤ coins.length := by omega
    rw [if_pos hle'] at hres
    obtain ⟨A', hA'⟩ : ∃ A', A' = (if c = used then A else A.map (fun x => x.add used)) := ⟨_, rfl⟩
    have hsl' : SlOk (lk Γr) A' (c - used) (coins.drop used) := by rw [hA']; simpa [Rep.sz] using hsl
    rw [← hA']
    obtain ⟨ch, hch⟩ : ∃ ch, ch = (coins.drop used).take b := ⟨_, rfl⟩
    have hcl : ch.length = b := by rw [hch]; simp; omega
    rw [← hch] at hres
    -- the sum of what the coins are worth
    refine s_loop (fun g vs Γ => Γ = [] ∧ ∃ j : Nat, vs = [.v true (.int .i64 (bval (ch.take j) * 2 ^ (b - j) : Nat)), .v true (.int .i64 j)] ∧ j + g = b) b
      (Up.here ⟨rfl, 0, by simp [bval, looks, look], by omega⟩) ?_
    rintro g vs Γ ⟨rfl, j, rfl, hjg⟩
    have hbv := bval_lt (ch.take j)
    have hbnd : bval (ch.take j) * 2 ^ (b - j) + 2 ^ (b - j) ≤ 2 ^ 40 := by
      have h1 : (bval (ch.take j) + 1) * 2 ^ (b - j) ≤ 2 ^ j * 2 ^ (b - j) := Nat.mul_le_mul_right _ (by
        have : (ch.take j).length = j := by simp; omega
        rw [this] at hbv
        omega)
      rw [← Nat.pow_add, show j + (b - j) = b by omega, Nat.add_mul, Nat.one_mul] at h1
      omega
    simp only [S22_4, go_sem, Nat.reduceBEq, Nat.reduceAdd, Nat.reduceSub, Nat.reduceMul, Nat.reduceLeDiff, reduceCtorEq, ↓reduceIte, Int.reduceLT, Int.reduceLE, Int.reduceEq, Int.reduceNe]
    refine ⟨fun hlt => ?_, fun hge2 => ?_⟩
    · have hj : j < b := by omega
      have hjc : j < ch.length := by omega
      have hjd : j < (coins.drop used).length := by simp; omega
      have hcj : (coins.drop used)[j] = ch[j] := by simp [hch]
      refine s_split ?_
      obtain ⟨bb, oo, rfl, cs, hok, hcells⟩ := hsl'.elem (i := j) (x := ch[j]) (by rw [← hcj]; exact List.getElem?_eq_getElem hjd)
      obtain rfl := ok_bool hok
      have w1 : IntKind.i64.wrap ((b : Int) - 1) = (b : Int) - 1 := wrap_id (by omega) (by omega)
      have w2 : IntKind.i64.wrap ((b : Int) - 1 - (j : Int)) = ((b - 1 - j : Nat) : Int) := by rw [wrap_id (by omega) (by omega)]; omega
      have w3 : IntKind.i64.wrap ((j : Int) + 1) = ((j + 1 : Nat) : Int) := wrap_id (by omega) (by omega)
      have hsplit : 2 ^ (b - j) = 2 ^ (b - 1 - j) * 2 := by rw [← Nat.pow_succ]; congr 1; omega
      have w4 : IntKind.i64.wrap (((bval (ch.take j) * 2 ^ (b - j) : Nat) : Int) + ((2 ^ (b - 1 - j) : Nat) : Int)) = ((bval (ch.take j) * 2 ^ (b - j) + 2 ^ (b - 1 - j) : Nat) : Int) := by
        rw [wrap_id (by omega) (by omega)]; rfl
      have htake : ch.take (j + 1) = ch.take j ++ [ch[j]] := by rw [List.take_succ_eq_append_getElem hjc]
      have hstep : bval (ch.take (j + 1)) = 2 * bval (ch.take j) + ch[j].toNat := by rw [htake, bval_snoc]
      have hexp : b - (j + 1) = b - 1 - j := by omega
      have hnext : bval (ch.take (j + 1)) * 2 ^ (b - (j + 1)) = bval (ch.take j) * 2 ^ (b - j) + ch[j].toNat * 2 ^ (b - 1 - j) := by
        rw [hstep, hexp, hsplit, Nat.add_mul, Nat.mul_comm 2, Nat.mul_assoc, Nat.mul_comm 2]
      simp only [S22_2, S22_3, go_sem, Nat.reduceBEq, Nat.reduceAdd, Nat.reduceSub, Nat.reduceMul, Nat.reduceLeDiff, reduceCtorEq, ↓reduceIte, Int.reduceLT, Int.reduceLE, Int.reduceEq, Int.reduceNe]
      refine s_idx rfl (by omega) (by simp; omega) ?_
      simp only [go_sem, Nat.reduceBEq, Nat.reduceAdd, Nat.reduceSub, Nat.reduceMul, Nat.reduceLeDiff, reduceCtorEq, ↓reduceIte, Int.reduceLT, Int.reduceLE, Int.reduceEq, Int.reduceNe]
      refine s_load (vs := [.bool ch[j]]) (by simpa [Rep.sz] using hcells _ (Mem.le.refl _)) ?_
      simp only [w1, w2, shl_one (b - 1 - j) (by omega), w3, w4, go_sem, Nat.reduceBEq, Nat.reduceAdd, Nat.reduceSub, Nat.reduceMul, Nat.reduceLeDiff, reduceCtorEq, ↓reduceIte, Int.reduceLT, Int.reduceLE, Int.reduceEq, Int.reduceNe]
      refine ⟨fun ht => ⟨by omega, ?_⟩, fun ht => ?_⟩
      · refine Up.here ⟨g - 1, by omega, Up.here ⟨rfl, j + 1, ?_, by omega⟩⟩
        rw [hnext, ht]
        simp
      · refine Up.here ⟨g - 1, by omega, Up.here ⟨rfl, j + 1, ?_, by omega⟩⟩
        rw [hnext, ht]
        simp
    · have hj : j = b := by omega
      subst hj
      have htk : ch.take j = ch := by rw [← hcl]; exact List.take_length
      rw [htk]
      simp only [Nat.sub_self, Nat.pow_zero, Nat.mul_one]
      have hx : bval ch < 2 ^ j := by have := bval_lt ch; rwa [hcl] at this
      have hjle : 2 ^ j ≤ 2 ^ 40 := Nat.pow_le_pow_right (by omega) (by omega)
      refine ⟨fun hlt => ?_, fun hge3 => ?_⟩
      · have : bval ch < m := by exact_mod_cast hlt
        rw [if_pos this] at hres
        have w5 : IntKind.i64.wrap ((i : Int) + 1) = ((i + 1 : Nat) : Int) := wrap_id (by omega) (by omega)
        have w6 : IntKind.i64.wrap (((i + 1 : Nat) : Int) * (j : Int)) = ((used + j : Nat) : Int) := by
          have : ((i + 1 : Nat) : Int) * (j : Int) = ((used + j : Nat) : Int) := by rw [hui, ← Nat.add_one_mul]; simp
          rw [this]
          exact wrap_id (by omega) (by omega)
        rw [w5, w6]
        refine Up.here ?_
        subst hR
        exact ⟨rfl, by simp [← hres]⟩
      · have : ¬ bval ch < m := by intro q; exact hge3 (by exact_mod_cast q)
        rw [if_neg this] at hres
        have hjpos : 0 < j := by
          rcases Nat.eq_zero_or_pos j with q | q
          · subst q
            have : ch = [] := List.eq_nil_of_length_eq_zero hcl
            subst this
            simp [bval] at hge3
            omega
          · exact q
        refine ⟨f, by omega, Up.here ⟨rfl, i + 1, used + j, by simp; exact wrap_id (by omega) (by omega), by rw [hui, Nat.add_mul, Nat.one_mul], by omega, hle', by omega, hres⟩⟩
/- Trees of a grammar stand in the lists: the plain law; no condition. -/
mutual
def wdT : Tr → List Int
  | ⟨r, t, ks⟩ => if r = -1 then [t] else wdL ks
def wdL : List Tr → List Int
  | [] => []
  | k :: ks => wdT k ++ wdL ks
end
theorem wdT_eq (x : Tr) : wdT x = if x.rule = -1 then [x.term] else wdL x.kids := by
  cases x
  simp only [wdT, Tr.rule, Tr.term, Tr.kids]
  congr
theorem wdL_append (a b : List Tr) : wdL (a ++ b) = wdL a ++ wdL b := by
  induction a with
  | nil => simp [wdL]
  | cons k a ih => simp only [List.cons_append, wdL, ih, List.append_assoc]
theorem wdL_le {ks : List Tr} (h : ∀ k ∈ ks, (wdT k).length ≤ numT k) : (wdL ks).length ≤ numL ks := by
  induction ks with
  | nil => simp [wdL, numL]
  | cons k ks ih =>
    have := h k (by simp)
    have := ih fun x hx => h x (by simp [hx])
    simp only [wdL, numL, List.length_append]
    omega
theorem wdT_le (x : Tr) : (wdT x).length ≤ numT x := by
  refine Tr.ind (p := fun x => (wdT x).length ≤ numT x) (fun x ih => ?_) x
  rw [wdT_eq, numT_eq]
  split
  · simp
  · have := wdL_le ih
    omega
end Go.Proofs.Ytniobbepliknmaa.V
/- The text of parlance/tree.word as a statement (slots: 0 out, 1 t, 2 out, 3 t, 5 _, 6 k); no condition. -/
namespace Go.Proofs.Ytniobbepliknmaa.V
open Go
def S166_1 : Stmt :=
 .seq
 (.region [.mk (some 18) none (.ibin .lss (.tmp 17) (.tmp 16))] [0,15,16,17,18])
 (.seq (.cond (.tmp 18) .skip (.exit 0))
 (.seq
 (.block 1
 (.seq
 (.region
 [.mk (some 19) none (.idx 3 (.tmp 15) (.tmp 17)),
 .mk (some 20) none (.load true 3 (.tmp 19)),
 .mk (some 6) none
 (.alloc true 106
 (.agg (Array.mk [.int .i64 0,.int .i64 0,.slice none 0 0]))),
 .mk none none (.store 3 (.tmp 6) (.tmp 20))]
 [0,6,15,16,17])
 (.region
 [.mk (some 21) none (.mv (.tmp 0)),
 .mk (some 22) none (.load true 3 (.tmp 6)),
 .mk (some 23) none (.call (.func 166) [.tmp 21,.tmp 22]),
 .mk (some 0) none (.mv (.tmp 23))]
 [0,15,16,17])))
 (.region
 [.mk (some 24) none (.ibin .add (.tmp 17) (.const (.int .i64 1))),
 .mk (some 17) none (.mv (.tmp 24))]
 [0,15,16,17])))
def S166_0 : Stmt :=
 .seq
 (.region
 [.mk (some 3) none (.box true 106 (.tmp 1)),
 .mk (some 4) none (.mv (.const (.slice none 0 0)))]
 [0,3])
 (.seq
 (.seq
 (.region
 [.mk (some 7) none (.load true 3 (.tmp 3)),
 .mk (some 8) none (.call (.func 139) [.tmp 7])]
 [0,3,8])
 (.cond (.tmp 8)
 (.seq
 (.region
 [.mk (some 9) none (.mv (.tmp 0)),.mk (some 10) none (.fld 1 (.tmp 3)),
 .mk (some 11) none (.load false 1 (.tmp 10)),
 .mk (some 12) none (.buildS 3 1 [.int .i64 0] [(0,1,.tmp 11)]),
 .mk (some 13) none (.append 29 3 1 8 (.int .i64 0) (.tmp 9) (.tmp 12)),
 .mk (some 4) none (.mv (.tmp 13))]
 [4])
 .ret)
 .skip))
 (.seq
 (.seq
 (.region
 [.mk (some 14) none (.fld 2 (.tmp 3)),
 .mk (some 15) none (.load false 1 (.tmp 14)),
 .mk (some 16) none (.len false (.tmp 15)),
 .mk (some 17) none (.mv (.const (.int .i64 0)))]
 [0,15,16,17])
 (.block 0 (.loop S166_1 [0,17] [15,16])))
 (.seq
 (.region
 [.mk (some 25) none (.mv (.tmp 0)),.mk (some 4) none (.mv (.tmp 25))] [4])
 .ret)))
def S166 : FnS := ⟨26,[(4,none)],S166_0⟩
theorem tr166 : trFn Try.prog 166 [3,6] [[0,3],[0,3,8],[4],[0,15,16,17],[0,17],[15,16],[0,15,16,17,18],[0,6,15,16,17],[0,15,16,17],[0,15,16,17],[4]] = some S166 := by kernel_rfl
end Go.Proofs.Ytniobbepliknmaa.V
/- The text of parlance/tree.Word as a statement (slots: 0 t, 1 t); no condition. -/
namespace Go.Proofs.Ytniobbepliknmaa.V
open Go
def S100_0 : Stmt :=
 .seq
 (.region
 [.mk (some 1) none (.box true 106 (.tmp 0)),
 .mk (some 2) none (.mv (.const (.slice none 0 0)))]
 [1])
 (.seq
 (.region
 [.mk (some 3) none (.load true 3 (.tmp 1)),
 .mk (some 4) none (.call (.func 166) [.const (.slice none 0 0),.tmp 3]),
 .mk (some 2) none (.mv (.tmp 4))]
 [2])
 .ret)
def S100 : FnS := ⟨5,[(2,none)],S100_0⟩
theorem tr100 : trFn Try.prog 100 [1] [[1],[2]] = some S100 := by kernel_rfl
end Go.Proofs.Ytniobbepliknmaa.V
namespace Go.Proofs.Ytniobbepliknmaa.V
open Go
set_option linter.unusedVariables false
set_option linter.unusedSimpArgs false
/- The words of trees: tree.word, tree.Word walked; no condition. -/
attribute [local go_sem] e_seq e_region e_quiet e_join e_loop e_cond e_block e_exit e_ret e_skip e_fin e_kseq e_snrm e_sret e_sex e_bnrm e_bret e_bex e_rnrm e_rret e_res e_condC e_nil e_g e_mv g_mv e_pick g_pick pickC_eq e_ibin g_ibin ibinC_eq e_sbin g_sbin e_beq g_beq beqC_eq e_nilq g_nilq nilqC_sl nilqC_pt nilqC_mp e_un g_un unC_not unC_neg e_conv g_conv convC_eq e_fld g_fld fldC_ref fldC_ptr e_nilCheck g_nilCheck nilCheckC_ref nilCheckC_ptr nilCheckC_fun e_field g_field fieldC_eq e_len g_len lenC_sl lenC_str e_extract g_extract extractC_eq e_mkFunc e_build g_build e_idiv g_idiv idivC_eq e_ishift g_ishift ishiftC_eq e_idx g_idx e_idxA g_idxA e_load g_load e_loadB g_loadB atB_ref atB_v g_mkFunc loadC_ref loadC_ptr loadB_eq e_slc g_slc e_box boxC_loc boxC_esc e_alloc allocC_loc allocC_esc e_buildS e_store storeC_ref storeC_ptr storeB_eq e_append e_appz e_mk mkC_eq e_call callC_eq e_fn g_fn fnC_eq fnV_min' fnV_max' fnV_rune' e_q g_q e_a e_n g_call g_box g_alloc g_buildS g_store g_append g_mk g_a g_n g_dead e_dead e_callK e_drawn e_tree e_finJ e_tk e_tfin e_tno e_nbt_q e_nbt_qn e_nbt_a e_nbt_an e_nbt_fin e_drawnB e_bxb_nil e_bxb e_stB_none e_stB_some boxSt_store bs_mv bs_pick bs_ibin bs_idiv bs_ishift bs_sbin bs_beq bs_nilq bs_un bs_conv bs_box bs_alloc bs_build bs_buildS bs_load bs_fld bs_nilCheck bs_idx bs_idxA bs_field bs_slc bs_len bs_append bs_appz bs_mk bs_call bs_extract bs_mkFunc bs_fn bs_q bs_a bs_n bs_loadB bs_dead isBox_box e_early_nil e_early_t e_early_f e_nob_nil e_nob_none e_nob_some isBox_dead isBox_v isBox_ref e_dnil e_dk e_ek e_finB vcOps_vc1 e_dcons e_tq e_ekt e_tearly e_talt e_dearly look_nil look_c proj_nil proj_c looks_nil looks_c zip_nil zip_c val_tmp val_const val_func slv_v slv_box slv_ref slot_tmp slot_const slot_func slotL_v slotL_box slotL_ref put_some put_none updBox_c boxSet_box gd_eq slotVals_nil slotVals_c slotVals_b boxV_box boxOn_box slotsOn_nil slotsOn_c slotsOn_b resV_one resV_two vals_nil vals_c allOn_nil allOn_c partOn_nil partOn_c partVals_nil partVals_c fits_nil fits_c fillL_nil fillL_c mkv_one mkv_agg cellsV_agg cellsV_int cellsV_bool cellsV_slice cellsV_string cellsV_pointer cellsV_func cellsV_nilf cellsV_map one'_nil one'_c oc_int oc_bool oc_slice oc_string oc_pointer oc_func oc_nilf oc_map setC_eq iv_add iv_sub iv_mul iv_eql iv_neq iv_lss iv_leq iv_gtr iv_geq iok_add iok_sub iok_mul iok_eql iok_neq iok_lss iok_leq iok_gtr iok_geq pickV_bool args0_nil args0_c bnd_none bnd_some imp_bt imp_bf imp_ebt imp_ebf imp_eb1 imp_np imp_pp beq_tt beq_tf beq_ft beq_ff cond_or cond_and e_round e_meet Int.le_refl Int.toNat_zero decide_true decide_false Bool.or_false Bool.false_or Bool.true_or Bool.or_true Bool.and_false Bool.false_and Bool.bne_false Bool.bne_true beq_iff_eq Int.cast_ofNat_Int not_false_eq_true not_true_eq_false false_and and_false false_implies true_implies true_and and_true Bool.true_and Bool.and_true Bool.not_true Bool.not_false forall_const implies_true List.take_zero List.drop_zero List.take_succ_cons List.drop_succ_cons List.take_nil List.drop_nil List.length_cons List.length_nil List.nil_append List.append_nil List.cons_append Int.toNat_natCast decide_eq_true_eq decide_eq_false_iff_not cond_true cond_false and_self List.getElem?_cons_zero List.getElem?_cons_succ List.set_cons_zero List.set_cons_succ Option.some.injEq exists_eq_left' Nat.zero_add Nat.add_zero Nat.mul_one imp_self true_or or_true or_false false_or Bool.or_eq_true Bool.or_eq_false_iff Bool.and_eq_true Bool.and_eq_false_iff Bool.not_eq_true' Bool.not_eq_false'

/-- an empty heap more is no harm -/
theorem Ret.emp {P : Program} {f : FuncId} {args : List Value} {Γr : Ctx} {R : Value → Ctx → Prop} (h : Ret P f args Γr [V.emp] R) : Ret P f args Γr [] R :=
  ⟨h.fn, fun w hs => (h.calls w ⟨fun g hg k o hk => by
    rcases List.mem_cons.1 hg with e | e
    · subst e; cases hk
    · exact hs.holds g e k o hk, List.pairwise_cons.2 ⟨fun x _ k => .inl rfl, hs.apart⟩⟩).mono fun e w' ⟨v, Γ', he, hR, hd⟩ => ⟨v, Γ', he, hR, ⟨hd.sat, fun g hg k hk => by
    rcases hd.own g hg k hk with q | ⟨x, hx, q⟩
    · exact .inl q
    · simp only [List.mem_singleton] at hx
      subst hx
      exact absurd rfl q, hd.os, hd.tape, hd.output, hd.size, fun k hk _ => hd.same k hk (fun x hx => by
      simp only [List.mem_singleton] at hx
      subst hx
      rfl)⟩⟩⟩
theorem tree_wd {Γr : Ctx} (x : Tr) : ∀ {A : Option Addr} {c : Nat}, SlOk (lk Γr) A c x.kids → numT x ≤ 20000000000 → ∀ {go : PH} {v : Value} {xs : List Int}, Bld go (lk []) 3 v xs → xs.length + numT x ≤ 40000000000 →
    Ret Try.prog 166 [v, .agg #[.int .i64 x.rule, .int .i64 x.term, .slice A x.kids.length c]] Γr [go] (fun v Γ => ∃ go', Γ = [go'] ∧ Bld go' (lk []) 3 v (xs ++ wdT x)) := by
  refine Tr.ind (p := fun x => ∀ {A : Option Addr} {c : Nat}, SlOk (lk Γr) A c x.kids → numT x ≤ 20000000000 → ∀ {go : PH} {v : Value} {xs : List Int}, Bld go (lk []) 3 v xs → xs.length + numT x ≤ 40000000000 →
    Ret Try.prog 166 [v, .agg #[.int .i64 x.rule, .int .i64 x.term, .slice A x.kids.length c]] Γr [go] (fun v Γ => ∃ go', Γ = [go'] ∧ Bld go' (lk []) 3 v (xs ++ wdT x))) (fun x ih A c hx hn go v xs hB hb => ?_) x
  generalize hR : (fun (v : Value) (Γ : Ctx) => ∃ go', _) = R
  obtain ⟨A0, c0, rfl⟩ := hB.val
  refine ret_of_vc tr166 (Nat.le_of_ble_eq_true rfl) ?_
  have hn1 := numT_eq x
  have hlen := numL_len x.kids
  simp -implicitDefEqProofs only [S166, S166_0, go_sem, Nat.reduceBEq, Nat.reduceAdd, Nat.reduceSub, Nat.reduceMul, Nat.reduceLeDiff, reduceCtorEq, ↓reduceIte, Int.reduceLT, Int.reduceLE, Int.reduceEq, Int.reduceNe]
  intro b1
  refine CallVC.read (tree_leaf _ _ _ _ _) ?_
  rintro v Γ' ⟨rfl, rfl⟩
  simp -implicitDefEqProofs only [go_sem, Nat.reduceBEq, Nat.reduceAdd, Nat.reduceSub, Nat.reduceMul, Nat.reduceLeDiff, reduceCtorEq, ↓reduceIte, Int.reduceLT, Int.reduceLE, Int.reduceEq, Int.reduceNe]
  refine ⟨fun h => ?_, fun h => ?_⟩
  · intro bk
    refine s_app1S (α := Int) (ix := 1) x.term rfl hB cells_one rfl (by omega) (by unfold maxLen; omega) ?_
    intro v' go' hB' _
    simp -implicitDefEqProofs only [go_sem, Nat.reduceBEq, Nat.reduceAdd, Nat.reduceSub, Nat.reduceMul, Nat.reduceLeDiff, reduceCtorEq, ↓reduceIte, Int.reduceLT, Int.reduceLE, Int.reduceEq, Int.reduceNe]
    refine Up.skip (Up.here ?_)
    subst hR
    rw [wdT_eq, if_pos h]
    exact ⟨go', rfl, hB'⟩
  · refine s_loop (fun f vs Γ => ∃ (go : PH) (v : Value) (k : Nat), vs = [.v true v, .v true (.int .i64 k)] ∧ Γ = [go] ∧ k + f = x.kids.length ∧ Bld go (lk []) 3 v (xs ++ wdL (x.kids.take k))) x.kids.length
      (Up.here ⟨go, _, 0, rfl, rfl, by omega, by simpa [wdL] using hB⟩) ?_
    clear hB
    rintro f vs Γ ⟨go, v, k, rfl, rfl, hkf, hB⟩
    obtain ⟨A0, c0, rfl⟩ := hB.val
    simp -implicitDefEqProofs only [S166_1, go_sem, Nat.reduceBEq, Nat.reduceAdd, Nat.reduceSub, Nat.reduceMul, Nat.reduceLeDiff, reduceCtorEq, ↓reduceIte, Int.reduceLT, Int.reduceLE, Int.reduceEq, Int.reduceNe]
    refine ⟨fun hlt => ?_, fun hge => ?_⟩
    · have hk : k < x.kids.length := by omega
      obtain ⟨b, o, hA, A', c', hs', hc⟩ := hx.tr hk
      have hm := List.getElem_mem hk
      have hst : wdL (x.kids.take (k + 1)) = wdL (x.kids.take k) ++ wdT x.kids[k] := by
        rw [List.take_succ_eq_append_getElem hk, wdL_append]
        simp [wdL]
      have hnk := numL_mem hm
      have hle : numL (x.kids.take k) + numT x.kids[k] ≤ numL x.kids := by
        have h1 : numL (x.kids.take (k + 1)) = numL (x.kids.take k) + numT x.kids[k] := by
          rw [List.take_succ_eq_append_getElem hk, numL_append]
          simp [numL]
        have h2 := numL_append (x.kids.take (k + 1)) (x.kids.drop (k + 1))
        rw [List.take_append_drop] at h2
        omega
      have hs1 : (wdL (x.kids.take k)).length ≤ numL (x.kids.take k) := wdL_le fun y _ => wdT_le y
      refine s_idx hA (by omega) (by omega) ?_
      simp -implicitDefEqProofs only [go_sem, Nat.reduceBEq, Nat.reduceAdd, Nat.reduceSub, Nat.reduceMul, Nat.reduceLeDiff, reduceCtorEq, ↓reduceIte, Int.reduceLT, Int.reduceLE, Int.reduceEq, Int.reduceNe]
      refine s_ld0 (hc _ (lk_r [go] _)) (by simp) (by simp) ?_
      simp -implicitDefEqProofs only [go_sem, Nat.reduceBEq, Nat.reduceAdd, Nat.reduceSub, Nat.reduceMul, Nat.reduceLeDiff, reduceCtorEq, ↓reduceIte, Int.reduceLT, Int.reduceLE, Int.reduceEq, Int.reduceNe]
      intro b5
      refine CallVC.perm (Γm := [go]) (Γf := []) (ih _ hm hs' (by omega) hB (by rw [List.length_append]; omega)) (List.Perm.refl _) (List.Sublist.refl _) ?_
      rintro v Γ' ⟨go', rfl, hB'⟩
      rw [List.append_assoc, ← hst] at hB'
      obtain ⟨A0, c0, rfl⟩ := hB'.val
      simp -implicitDefEqProofs only [go_sem, Nat.reduceBEq, Nat.reduceAdd, Nat.reduceSub, Nat.reduceMul, Nat.reduceLeDiff, reduceCtorEq, ↓reduceIte, Int.reduceLT, Int.reduceLE, Int.reduceEq, Int.reduceNe]
      simp (disch := omega) only [wrap_id]
      exact ⟨f - 1, by omega, Up.here ⟨go', _, k + 1, rfl, rfl, by omega, hB'⟩⟩
    · have hk : k = x.kids.length := by omega
      have he : wdL (x.kids.take k) = wdL x.kids := by rw [hk, List.take_length]
      refine Up.here ?_
      subst hR
      rw [wdT_eq, if_neg h, ← he]
      exact ⟨go, rfl, hB⟩
theorem tree_wordB {Γr : Ctx} (x : Tr) {A : Option Addr} {c : Nat} (hx : SlOk (lk Γr) A c x.kids) (hn : numT x ≤ 20000000000) :
    Ret Try.prog 100 [.agg #[.int .i64 x.rule, .int .i64 x.term, .slice A x.kids.length c]] Γr [] (fun v Γ => ∃ go, Γ = [go] ∧ Bld go (lk []) 3 v (wdT x)) := by
  generalize hR : (fun (v : Value) (Γ : Ctx) => ∃ go, _) = R
  refine ret_of_vc tr100 (Nat.le_of_ble_eq_true rfl) ?_
  simp -implicitDefEqProofs only [S100, S100_0, go_sem, Nat.reduceBEq, Nat.reduceAdd, Nat.reduceSub, Nat.reduceMul, Nat.reduceLeDiff, reduceCtorEq, ↓reduceIte, Int.reduceLT, Int.reduceLE, Int.reduceEq, Int.reduceNe]
  intro b1
  refine CallVC.read (Ret.emp (tree_wd (Γr := [] ++ Γr) x hx hn (Bld.nil V.emp (lk []) 3) (by simp; omega))) ?_
  rintro v Γ' ⟨go, rfl, hB⟩
  rw [List.nil_append] at hB
  obtain ⟨A0, c0, rfl⟩ := hB.val
  simp -implicitDefEqProofs only [go_sem, Nat.reduceBEq, Nat.reduceAdd, Nat.reduceSub, Nat.reduceMul, Nat.reduceLeDiff, reduceCtorEq, ↓reduceIte, Int.reduceLT, Int.reduceLE, Int.reduceEq, Int.reduceNe]
  refine Up.here ?_
  subst hR
  exact ⟨go, rfl, hB⟩
/- rank: of, ofKids walked; no condition. -/
theorem sumR_take (T : Int → Nat → Nat) (a : Int) (k : Nat) : ∀ (rs : List Ru) (j : Nat), sumR T a k (rs.take j) ≤ sumR T a k rs
  | [], j => by simp
  | r :: rs, 0 => by simp [sumR]
  | r :: rs, j + 1 => by
    rw [List.take_succ_cons, sumR, sumR]
    have := sumR_take T a k rs j
    omega
end Go.Proofs.Ytniobbepliknmaa.V
/- The text of parlance/rank.open as a statement (slots: 0 g, 1 n, 2 g, 3 n, 7 l, 8 e, 9 all); no condition. -/
namespace Go.Proofs.Ytniobbepliknmaa.V
open Go
def S164_0 : Stmt :=
 .seq
 (.region
 [.mk (some 2) none (.box true 57 (.tmp 0)),
 .mk (some 4) none (.mv (.const (.pointer none))),
 .mk (some 5) none (.mv (.const (.int .i64 0))),
 .mk (some 6) none (.mv (.const (.int .i64 0)))]
 [1,2])
 (.seq
 (.region
 [.mk (some 11) none (.load true 4 (.tmp 2)),.mk (some 12) none (.mv (.tmp 1)),
 .mk (some 13) none (.call (.func 79) [.tmp 11,.tmp 12]),
 .mk (some 10) none (.mv (.tmp 13)),.mk (some 14) none (.extract 0 (.tmp 10)),
 .mk (some 15) none (.extract 1 (.tmp 10)),.mk (some 7) none (.mv (.tmp 14)),
 .mk (some 8) none (.mv (.tmp 15))]
 [1,2,7,8])
 (.seq
 (.seq
 (.region
 [.mk (some 16) none (.mv (.tmp 8)),
 .mk (some 17) none (.ibin .neq (.tmp 16) (.const (.int .i64 0)))]
 [1,2,7,8,17])
 (.cond (.tmp 17)
 (.seq
 (.region
 [.mk (some 18) none (.mv (.tmp 8)),
 .mk (some 4) none (.mv (.const (.pointer none))),
 .mk (some 5) none (.mv (.const (.int .i64 0))),
 .mk (some 6) none (.mv (.tmp 18))]
 [4,5,6])
 .ret)
 .skip))
 (.seq
 (.region
 [.mk (some 19) none (.mv (.tmp 7)),.mk (some 20) none (.fld 2 (.tmp 2)),
 .mk (some 21) none (.load false 1 (.tmp 20)),
 .mk (some 22) none (.idx 1 (.tmp 19) (.tmp 21)),
 .mk (some 23) none (.load false 1 (.tmp 22)),
 .mk (some 24) none (.mv (.tmp 1)),
 .mk (some 25) none (.idx 1 (.tmp 23) (.tmp 24)),
 .mk (some 26) none (.load false 1 (.tmp 25)),
 .mk (some 9) none (.mv (.tmp 26))]
 [2,7,9])
 (.seq (.region [.mk (some 27) none (.mv (.tmp 9))] [2,7,9,27])
 (.block 0
 (.seq
 (.region
 [.mk (some 35) none
 (.ibin .eql (.tmp 27) (.const (.int .i64 (-1)))),
 .mk (some 34) none (.mv (.tmp 35))]
 [2,7,9,27,34])
 (.cond (.tmp 34)
 (.seq
 (.region
 [.mk (some 4) none (.mv (.const (.pointer none))),
 .mk (some 5) none (.mv (.const (.int .i64 0))),
 .mk (some 6) none (.mv (.const (.int .i64 9)))]
 [4,5,6])
 .ret)
 (.seq
 (.region
 [.mk (some 37) none
 (.ibin .eql (.tmp 27) (.const (.int .i64 1000000000))),
 .mk (some 36) none (.mv (.tmp 37))]
 [2,7,9,36])
 (.cond (.tmp 36)
 (.seq
 (.region
 [.mk (some 4) none (.mv (.const (.pointer none))),
 .mk (some 5) none (.mv (.const (.int .i64 0))),
 .mk (some 6) none (.mv (.const (.int .i64 2)))]
 [4,5,6])
 .ret)
 (.seq
 (.region
 [.mk (some 28) none (.load true 4 (.tmp 2)),
 .mk (some 29) none (.mv (.tmp 7)),
 .mk (some 30) none (.n (Qk.mkmap 266) []),
 .mk (some 31) none
 (.build 268
 [.int .i64 0,.int .i64 0,.int .i64 0,
 .slice none 0 0,.slice none 0 0,.map none]
 [(0,4,.tmp 28),(4,1,.tmp 29),(5,1,.tmp 30)]),
 .mk (some 32) none (.box false 268 (.tmp 31)),
 .mk (some 33) none (.mv (.tmp 9)),
 .mk (some 4) none (.mv (.tmp 32)),
 .mk (some 5) none (.mv (.tmp 33)),
 .mk (some 6) none (.mv (.const (.int .i64 0)))]
 [4,5,6])
 .ret))))))))))
def S164 : FnS := ⟨38,[(4,none),(5,none),(6,none)],S164_0⟩
theorem tr164 : trFn Try.prog 164 [2] [[1,2],[1,2,7,8],[1,2,7,8,17],[4,5,6],[2,7,9],[2,7,9,27],[2,7,9,27,34],[4,5,6],[2,7,9,36],[4,5,6],[4,5,6]] = some S164 := by kernel_rfl
end Go.Proofs.Ytniobbepliknmaa.V
/- The text of parlance/rank.Count as a statement (slots: 0 g, 1 n, 2 g, 3 n, 6 _, 7 all, 8 e); no condition. -/
namespace Go.Proofs.Ytniobbepliknmaa.V
open Go
def S98_0 : Stmt :=
 .seq
 (.region
 [.mk (some 2) none (.box true 57 (.tmp 0)),
 .mk (some 4) none (.mv (.const (.int .i64 0))),
 .mk (some 5) none (.mv (.const (.int .i64 0)))]
 [1,2])
 (.seq
 (.region
 [.mk (some 10) none (.load true 4 (.tmp 2)),.mk (some 11) none (.mv (.tmp 1)),
 .mk (some 12) none (.call (.func 164) [.tmp 10,.tmp 11]),
 .mk (some 9) none (.mv (.tmp 12)),.mk (some 13) none (.extract 0 (.tmp 9)),
 .mk (some 14) none (.extract 1 (.tmp 9)),
 .mk (some 15) none (.extract 2 (.tmp 9)),.mk (some 6) none (.mv (.tmp 13)),
 .mk (some 7) none (.mv (.tmp 14)),.mk (some 8) none (.mv (.tmp 15))]
 [7,8])
 (.seq
 (.region
 [.mk (some 16) none (.mv (.tmp 7)),.mk (some 17) none (.mv (.tmp 8)),
 .mk (some 4) none (.mv (.tmp 16)),.mk (some 5) none (.mv (.tmp 17))]
 [4,5])
 .ret))
def S98 : FnS := ⟨18,[(4,none),(5,none)],S98_0⟩
theorem tr98 : trFn Try.prog 98 [2] [[1,2],[7,8],[4,5]] = some S98 := by kernel_rfl
end Go.Proofs.Ytniobbepliknmaa.V
namespace Go.Proofs.Ytniobbepliknmaa.V
open Go
set_option linter.unusedVariables false
set_option linter.unusedSimpArgs false
/- rank: open, Count, Of walked; no condition. -/
attribute [local go_sem] e_seq e_region e_quiet e_join e_loop e_cond e_block e_exit e_ret e_skip e_fin e_kseq e_snrm e_sret e_sex e_bnrm e_bret e_bex e_rnrm e_rret e_res e_condC e_nil e_g e_mv g_mv e_pick g_pick pickC_eq e_ibin g_ibin ibinC_eq e_sbin g_sbin e_beq g_beq beqC_eq e_nilq g_nilq nilqC_sl nilqC_pt nilqC_mp e_un g_un unC_not unC_neg e_conv g_conv convC_eq e_fld g_fld fldC_ref fldC_ptr e_nilCheck g_nilCheck nilCheckC_ref nilCheckC_ptr nilCheckC_fun e_field g_field fieldC_eq e_len g_len lenC_sl lenC_str e_extract g_extract extractC_eq e_mkFunc e_build g_build e_idiv g_idiv idivC_eq e_ishift g_ishift ishiftC_eq e_idx g_idx e_idxA g_idxA e_load g_load e_loadB g_loadB atB_ref atB_v g_mkFunc loadC_ref loadC_ptr loadB_eq e_slc g_slc e_box boxC_loc boxC_esc e_alloc allocC_loc allocC_esc e_buildS e_store storeC_ref storeC_ptr storeB_eq e_append e_appz e_mk mkC_eq e_call callC_eq e_fn g_fn fnC_eq fnV_min' fnV_max' fnV_rune' e_q g_q e_a e_n g_call g_box g_alloc g_buildS g_store g_append g_mk g_a g_n g_dead e_dead e_callK e_drawn e_tree e_finJ e_tk e_tfin e_tno e_nbt_q e_nbt_qn e_nbt_a e_nbt_an e_nbt_fin e_drawnB e_bxb_nil e_bxb e_stB_none e_stB_some boxSt_store bs_mv bs_pick bs_ibin bs_idiv bs_ishift bs_sbin bs_beq bs_nilq bs_un bs_conv bs_box bs_alloc bs_build bs_buildS bs_load bs_fld bs_nilCheck bs_idx bs_idxA bs_field bs_slc bs_len bs_append bs_appz bs_mk bs_call bs_extract bs_mkFunc bs_fn bs_q bs_a bs_n bs_loadB bs_dead isBox_box e_early_nil e_early_t e_early_f e_nob_nil e_nob_none e_nob_some isBox_dead isBox_v isBox_ref e_dnil e_dk e_ek e_finB vcOps_vc1 e_dcons e_tq e_ekt e_tearly e_talt e_dearly look_nil look_c proj_nil proj_c looks_nil looks_c zip_nil zip_c val_tmp val_const val_func slv_v slv_box slv_ref slot_tmp slot_const slot_func slotL_v slotL_box slotL_ref put_some put_none updBox_c boxSet_box gd_eq slotVals_nil slotVals_c slotVals_b boxV_box boxOn_box slotsOn_nil slotsOn_c slotsOn_b resV_one resV_two vals_nil vals_c allOn_nil allOn_c partOn_nil partOn_c partVals_nil partVals_c fits_nil fits_c fillL_nil fillL_c mkv_one mkv_agg cellsV_agg cellsV_int cellsV_bool cellsV_slice cellsV_string cellsV_pointer cellsV_func cellsV_nilf cellsV_map one'_nil one'_c oc_int oc_bool oc_slice oc_string oc_pointer oc_func oc_nilf oc_map setC_eq iv_add iv_sub iv_mul iv_eql iv_neq iv_lss iv_leq iv_gtr iv_geq iok_add iok_sub iok_mul iok_eql iok_neq iok_lss iok_leq iok_gtr iok_geq pickV_bool args0_nil args0_c bnd_none bnd_some imp_bt imp_bf imp_ebt imp_ebf imp_eb1 imp_np imp_pp beq_tt beq_tf beq_ft beq_ff cond_or cond_and e_round e_meet Int.le_refl Int.toNat_zero decide_true decide_false Bool.or_false Bool.false_or Bool.true_or Bool.or_true Bool.and_false Bool.false_and Bool.bne_false Bool.bne_true beq_iff_eq Int.cast_ofNat_Int not_false_eq_true not_true_eq_false false_and and_false false_implies true_implies true_and and_true Bool.true_and Bool.and_true Bool.not_true Bool.not_false forall_const implies_true List.take_zero List.drop_zero List.take_succ_cons List.drop_succ_cons List.take_nil List.drop_nil List.length_cons List.length_nil List.nil_append List.append_nil List.cons_append Int.toNat_natCast decide_eq_true_eq decide_eq_false_iff_not cond_true cond_false and_self List.getElem?_cons_zero List.getElem?_cons_succ List.set_cons_zero List.set_cons_succ Option.some.injEq exists_eq_left' Nat.zero_add Nat.add_zero Nat.mul_one imp_self true_or or_true or_false false_or Bool.or_eq_true Bool.or_eq_false_iff Bool.and_eq_true Bool.and_eq_false_iff Bool.not_eq_true' Bool.not_eq_false'

def opE (g : Gr) (n : Int) : Int := if cenE g n ≠ 0 then cenE g n else if cenF g n.toNat g.st.toNat n.toNat = -1 then 9 else if cenF g n.toNat g.st.toNat n.toNat = 1000000000 then 2 else 0
/-- a book that was opened -/
def OpenR (g : Gr) (n : Int) (R : Option Addr) (cR : Nat) (Γr : Ctx) (v : Value) (Γ : Ctx) : Prop := (opE g n ≠ 0 ∧ Γ = [] ∧ v = .tuple #[.pointer none, .int .i64 0, .int .i64 (opE g n)]) ∨
  (opE g n = 0 ∧ ∃ (m : Nat) (gb gm go : PH) (b : Nat) (An : Option Addr) (cn bm : Nat), n = m ∧ m ≤ 24 ∧ Fine g m ∧ Γ = [gb, gm, go] ∧ v = .tuple #[.pointer (some ⟨b, 0, none⟩), .int .i64 ((cntT g (mostN g m) g.st m : Nat) : Int), .int .i64 0] ∧
    BookK (lk ([gb, go] ++ Γr)) b g m R cR An cn bm ∧ MapM gm bm intsV (Value.int .i64) (okInts 3) ([] : List (List Int × Int)))
theorem rank_open {Γr : Ctx} {g : Gr} {R : Option Addr} {cR : Nat} (hx : SlOk (lk Γr) R cR g.rs) {n : Int} (hn : -9223372036854775808 ≤ n ∧ n ≤ 9223372036854775807) :
    Ret Try.prog 164 [.agg #[.int .i64 g.ts, .int .i64 g.ns, .int .i64 g.st, .slice R g.rs.length cR], .int .i64 n] Γr [] (OpenR g n R cR Γr) := by
  generalize hR : OpenR g n R cR Γr = R'
  refine ret_of_vc tr164 (Nat.le_of_ble_eq_true rfl) ?_
  simp -implicitDefEqProofs only [S164, S164_0, go_sem, Nat.reduceBEq, Nat.reduceAdd, Nat.reduceSub, Nat.reduceMul, Nat.reduceLeDiff, reduceCtorEq, ↓reduceIte, Int.reduceLT, Int.reduceLE, Int.reduceEq, Int.reduceNe]
  intro bg
  refine CallVC.read (Γ := []) (census_trees (Γr := [] ++ Γr) hx hn) ?_
  rintro v Γ' (⟨hne, rfl, rfl⟩ | ⟨h0, go, A, c, rfl, rfl, hS⟩)
  · simp -implicitDefEqProofs only [go_sem, Nat.reduceBEq, Nat.reduceAdd, Nat.reduceSub, Nat.reduceMul, Nat.reduceLeDiff, reduceCtorEq, ↓reduceIte, Int.reduceLT, Int.reduceLE, Int.reduceEq, Int.reduceNe]
    refine ⟨fun _ => Up.here ?_, fun h => absurd h hne⟩
    subst hR
    have : opE g n = cenE g n := if_pos hne
    exact .inl ⟨by rw [this]; exact hne, rfl, by rw [this]⟩
  · have hck : ckF g = 0 := by
      unfold cenE at h0
      split at h0
      · rename_i h; exact absurd h0 h
      · rename_i h; exact Classical.not_not.1 h
    have hnb : ¬ (n < 0 ∨ 24 < n) := fun h => by
      unfold cenE at h0
      rw [if_neg (by omega), if_pos h] at h0
      omega
    have V := ckF_ok hck
    have hst := V.st
    have hns := V.ns
    obtain ⟨m, rfl⟩ : ∃ m : Nat, n = m := ⟨n.toNat, by omega⟩
    rw [Int.toNat_natCast] at hS
    obtain ⟨s, hs⟩ : ∃ s : Nat, g.st = s := ⟨g.st.toNat, by omega⟩
    have hcl : (cenRows g m g.ns.toNat).length = g.ns.toNat := by simp [cenRows]
    obtain ⟨b1, o1, h1, A1, c1, hr1, hc1⟩ := hS.list (i := s) (by omega)
    have e1 : (cenRows g m g.ns.toNat)[s]'(by omega) = cenRow g m s (m + 1) := by simp [cenRows]
    rw [e1] at hr1 hc1
    have hrl : (cenRow g m s (m + 1)).length = m + 1 := by simp [cenRow]
    rw [hrl] at hc1
    obtain ⟨b2, o2, h2, hc2⟩ := hr1.int (i := m) (by omega)
    have e2 : (cenRow g m s (m + 1))[m]'(by omega) = cenF g m s m := by simp [cenRow]
    rw [e2] at hc2
    have hop : opE g (m : Int) = if cenF g m s m = -1 then 9 else if cenF g m s m = 1000000000 then 2 else 0 := by
      unfold opE
      rw [if_neg (by omega), Int.toNat_natCast, show g.st.toNat = s by omega]
    have hcl2 : g.ns.toNat = (cenRows g m g.ns.toNat).length := hcl.symm
    simp -implicitDefEqProofs only [go_sem, Nat.reduceBEq, Nat.reduceAdd, Nat.reduceSub, Nat.reduceMul, Nat.reduceLeDiff, reduceCtorEq, ↓reduceIte, Int.reduceLT, Int.reduceLE, Int.reduceEq, Int.reduceNe]
    rw [hs]
    refine s_idx h1 (by omega) (by omega) ?_
    simp -implicitDefEqProofs only [go_sem, Nat.reduceBEq, Nat.reduceAdd, Nat.reduceSub, Nat.reduceMul, Nat.reduceLeDiff, reduceCtorEq, ↓reduceIte, Int.reduceLT, Int.reduceLE, Int.reduceEq, Int.reduceNe]
    refine s_ld0 (hc1 _ (lk_l [go] _)) (by simp) (by simp) ?_
    simp -implicitDefEqProofs only [go_sem, Nat.reduceBEq, Nat.reduceAdd, Nat.reduceSub, Nat.reduceMul, Nat.reduceLeDiff, reduceCtorEq, ↓reduceIte, Int.reduceLT, Int.reduceLE, Int.reduceEq, Int.reduceNe]
    refine s_idx h2 (by omega) (by omega) ?_
    simp -implicitDefEqProofs only [go_sem, Nat.reduceBEq, Nat.reduceAdd, Nat.reduceSub, Nat.reduceMul, Nat.reduceLeDiff, reduceCtorEq, ↓reduceIte, Int.reduceLT, Int.reduceLE, Int.reduceEq, Int.reduceNe]
    refine s_ld0 (hc2 _ (lk_l [go] _)) (by simp) (by simp) ?_
    simp -implicitDefEqProofs only [go_sem, Nat.reduceBEq, Nat.reduceAdd, Nat.reduceSub, Nat.reduceMul, Nat.reduceLeDiff, reduceCtorEq, ↓reduceIte, Int.reduceLT, Int.reduceLE, Int.reduceEq, Int.reduceNe]
    refine ⟨fun e => ?_, fun ne1 => ⟨fun e => ?_, fun ne2 => ?_⟩⟩
    · refine Up.to [] (Ent.nil _) ?_
      subst hR
      have ho : opE g (m : Int) = 9 := by rw [hop, if_pos e]
      exact .inl ⟨by rw [ho]; decide, rfl, by rw [ho]⟩
    · refine Up.to [] (Ent.nil _) ?_
      subst hR
      have ho : opE g (m : Int) = 2 := by rw [hop, if_neg (by omega), if_pos e]
      exact .inl ⟨by rw [ho]; decide, rfl, by rw [ho]⟩
    · obtain ⟨F, hval⟩ := fine_of V hs ne1 ne2
      have ho : opE g (m : Int) = 0 := by rw [hop, if_neg ne1, if_neg ne2]
      refine s_mkmap (fun bm => ?_)
      simp -implicitDefEqProofs only [go_sem, Nat.reduceBEq, Nat.reduceAdd, Nat.reduceSub, Nat.reduceMul, Nat.reduceLeDiff, reduceCtorEq, ↓reduceIte, Int.reduceLT, Int.reduceLE, Int.reduceEq, Int.reduceNe]
      intro b
      refine Up.here ?_
      subst hR
      refine .inr ⟨ho, m, _, _, go, b, A, c, bm, rfl, by omega, F, rfl, by rw [hval], ⟨⟨_, List.mem_cons_self .., ?_⟩, hx.mono (lk_r [_, go] Γr), ?_⟩, MapM.new _ _ _ _⟩
      · rw [bkC, hs]
        exact one_self _ _
      · exact hS.mono (lk_sub fun g hg => by simp at hg; subst hg; simp)
theorem rank_count {Γr : Ctx} {g : Gr} {R : Option Addr} {cR : Nat} (hx : SlOk (lk Γr) R cR g.rs) {n : Int} (hn : -9223372036854775808 ≤ n ∧ n ≤ 9223372036854775807) :
    Ret Try.prog 98 [.agg #[.int .i64 g.ts, .int .i64 g.ns, .int .i64 g.st, .slice R g.rs.length cR], .int .i64 n] Γr [] (fun v Γ => Γ = [] ∧ ((opE g n ≠ 0 ∧ v = .tuple #[.int .i64 0, .int .i64 (opE g n)]) ∨
      (opE g n = 0 ∧ ∃ m : Nat, n = m ∧ m ≤ 24 ∧ Fine g m ∧ v = .tuple #[.int .i64 ((cntT g (mostN g m) g.st m : Nat) : Int), .int .i64 0]))) := by
  generalize hR : (fun (v : Value) (Γ : Ctx) => Γ = [] ∧ _) = R'
  refine ret_of_vc tr98 (Nat.le_of_ble_eq_true rfl) ?_
  simp -implicitDefEqProofs only [S98, S98_0, go_sem, Nat.reduceBEq, Nat.reduceAdd, Nat.reduceSub, Nat.reduceMul, Nat.reduceLeDiff, reduceCtorEq, ↓reduceIte, Int.reduceLT, Int.reduceLE, Int.reduceEq, Int.reduceNe]
  intro bg
  refine CallVC.read (Γ := []) (rank_open (Γr := [] ++ Γr) hx hn) ?_
  rintro v Γ' (⟨hne, rfl, rfl⟩ | ⟨h0, m, gb, gm, go, b, An, cn, bm, rfl, hm, F, rfl, rfl, hB, hM⟩)
  · simp -implicitDefEqProofs only [go_sem, Nat.reduceBEq, Nat.reduceAdd, Nat.reduceSub, Nat.reduceMul, Nat.reduceLeDiff, reduceCtorEq, ↓reduceIte, Int.reduceLT, Int.reduceLE, Int.reduceEq, Int.reduceNe]
    refine Up.here ?_
    subst hR
    exact ⟨rfl, .inl ⟨hne, rfl⟩⟩
  · simp -implicitDefEqProofs only [go_sem, Nat.reduceBEq, Nat.reduceAdd, Nat.reduceSub, Nat.reduceMul, Nat.reduceLeDiff, reduceCtorEq, ↓reduceIte, Int.reduceLT, Int.reduceLE, Int.reduceEq, Int.reduceNe]
    refine Up.to [] (Ent.nil _) ?_
    subst hR
    exact ⟨rfl, .inr ⟨h0, m, rfl, hm, F, rfl⟩⟩
/- Copies of trees: tree.Clone; no condition. -/
/-- a tree of its own: the row of its kids can be changed -/
def OwnT (x : Tr) (v : Value) (Γ : Ctx) : Prop := ∃ gr gk w, Γ = [gr, gk] ∧ v = .agg #[.int .i64 x.rule, .int .i64 x.term, w] ∧ Bld gr (lk [gk]) 106 w x.kids
theorem OwnT.ok {x : Tr} {v : Value} {Γ : Ctx} (h : OwnT x v Γ) (hs : numT x ≤ 1048576) : ∃ A c, v = .agg #[.int .i64 x.rule, .int .i64 x.term, .slice A x.kids.length c] ∧ SlOk (lk Γ) A c x.kids := by
  obtain ⟨gr, gk, w, rfl, rfl, hB⟩ := h
  have h1 := numL_len x.kids
  have h2 := numT_eq x
  obtain ⟨A, c, rfl, hs⟩ := hB.slok (L' := lk [gr, gk]) (lk_sub (by simp)) (lk_sub (by simp)) (by omega)
  exact ⟨A, c, rfl, hs⟩
/- All subtrees in preorder: parlref5.parts; no condition. -/
theorem lit_tree {b : Nat} {L : Mem} {x : Tr} {cs : List Value} (hx : Rep.ok L x cs) : Bld (one b (.cells cs.toArray 106)) L 106 (.slice (some ⟨b, 0, none⟩) 1 1) [x] := by
  have hl := Rep.len hx
  refine ⟨cs, ⟨by rw [hl]; simp, .inr ⟨b, 0, 0, _, rfl, by simp, by simp [maxLen], one_self _ _, by simp [hl], ?_⟩⟩, fun i y hi => ?_⟩
  · simp only [List.toList_toArray, List.drop_zero, List.length_cons, List.length_nil, Nat.zero_add, Nat.one_mul]
    rw [← hl, List.take_length]
  · cases i with
    | zero => simp at hi; subst hi; exact ⟨cs, hx, fun j hj => by simp⟩
    | succ i => simp at hi
theorem lk_ctx {Γ Γr : Ctx} {e : PH} (h : Mem.le (lk Γ) (lk [e])) : Mem.le (lk (Γ ++ Γr)) (lk (e :: Γr)) := by
  rintro k o ⟨g, hg, hk⟩
  rcases List.mem_append.1 hg with hg | hg
  · obtain ⟨z, hz, hzk⟩ := h k o ⟨g, hg, hk⟩
    exact ⟨z, by simp at hz; simp [hz], hzk⟩
  · exact ⟨g, by simp [hg], hk⟩
end Go.Proofs.Ytniobbepliknmaa.V
/- The text of (*parlance/rank.book).tree as a statement (slots: 0 b, 1 s, 2 n, 3 i, 4 b, 5 s, 6 n, 7 i, 9 k, 10 r, 11 w); no condition. -/
namespace Go.Proofs.Ytniobbepliknmaa.V
open Go
def S169_1 : Stmt :=
 .block 1
 (.seq
 (.region
 [.mk (some 25) none (.mv (.tmp 23)),
 .mk (some 26) none (.idx 2 (.tmp 21) (.tmp 23)),
 .mk (some 27) none (.load true 2 (.tmp 26)),
 .mk (some 10) none
 (.alloc true 37 (.agg (Array.mk [.int .i64 0,.slice none 0 0]))),
 .mk (some 9) none (.mv (.tmp 25)),
 .mk none none (.store 2 (.tmp 10) (.tmp 27))]
 [0,2,3,5,8,9,10,21,22,23])
 (.seq
 (.seq
 (.region
 [.mk (some 28) none (.fld 0 (.tmp 10)),
 .mk (some 29) none (.load false 1 (.tmp 28)),
 .mk (some 30) none (.fld 1 (.tmp 5)),
 .mk (some 31) none (.load false 1 (.tmp 30)),
 .mk (some 32) none (.ibin .neq (.tmp 29) (.tmp 31))]
 [0,2,3,5,8,9,21,22,23,32])
 (.cond (.tmp 32) (.exit 1) .skip))
 (.seq
 (.region
 [.mk (some 33) none (.mv (.tmp 0)),.mk (some 34) none (.mv (.tmp 9)),
 .mk (some 35) none (.mv (.tmp 2)),
 .mk (some 36) none
 (.call (.func 197)
 [.tmp 33,.tmp 34,.const (.int .i64 0),.tmp 35]),
 .mk (some 11) none (.mv (.tmp 36))]
 [0,2,3,5,8,9,11,21,22,23])
 (.seq
 (.seq
 (.region
 [.mk (some 37) none (.mv (.tmp 3)),.mk (some 38) none (.mv (.tmp 11)),
 .mk (some 39) none (.ibin .lss (.tmp 37) (.tmp 38))]
 [0,2,3,5,8,9,11,21,22,23,39])
 (.cond (.tmp 39)
 (.seq
 (.region
 [.mk (some 40) none (.mv (.tmp 9)),.mk (some 41) none (.mv (.tmp 0)),
 .mk (some 42) none (.mv (.tmp 9)),.mk (some 43) none (.mv (.tmp 2)),
 .mk (some 44) none (.mv (.tmp 3)),
 .mk (some 45) none
 (.call (.func 201)
 [.tmp 41,.tmp 42,.const (.int .i64 0),.tmp 43,
 .tmp 44]),
 .mk (some 46) none
 (.build 106 [.int .i64 0,.int .i64 0,.slice none 0 0]
 [(0,1,.tmp 40),(2,1,.tmp 45)]),
 .mk none none (.store 3 (.tmp 8) (.tmp 46))]
 [8])
 .ret)
 .skip))
 (.region
 [.mk (some 47) none (.mv (.tmp 3)),.mk (some 48) none (.mv (.tmp 11)),
 .mk (some 49) none (.ibin .sub (.tmp 47) (.tmp 48)),
 .mk (some 3) none (.mv (.tmp 49))]
 [0,2,3,5,8,21,22,23])))))
def S169_2 : Stmt :=
 .region
 [.mk (some 50) none (.ibin .add (.tmp 23) (.const (.int .i64 1))),
 .mk (some 23) none (.mv (.tmp 50))]
 [0,2,3,5,8,21,22,23]
def S169_3 : Stmt :=
 .seq
 (.region [.mk (some 24) none (.ibin .lss (.tmp 23) (.tmp 22))]
 [0,2,3,5,8,21,22,23,24])
 (.seq (.cond (.tmp 24) .skip (.exit 0)) (.join S169_1 S169_2 [3,8] [0,2,5,21,22,23]))
def S169_0 : Stmt :=
 .seq
 (.region
 [.mk (some 5) none (.box true 39 (.tmp 1)),
 .mk (some 8) none
 (.alloc true 106
 (.agg (Array.mk [.int .i64 0,.int .i64 0,.slice none 0 0])))]
 [0,2,3,5,8])
 (.seq
 (.seq
 (.region
 [.mk (some 12) none (.fld 0 (.tmp 5)),
 .mk (some 13) none (.load false 1 (.tmp 12))]
 [0,2,3,5,8,13])
 (.cond (.tmp 13)
 (.seq
 (.region
 [.mk (some 14) none (.fld 1 (.tmp 5)),
 .mk (some 15) none (.load false 1 (.tmp 14)),
 .mk (some 16) none
 (.build 106 [.int .i64 0,.int .i64 0,.slice none 0 0]
 [(0,1,.const (.int .i64 (-1))),(1,1,.tmp 15)]),
 .mk none none (.store 3 (.tmp 8) (.tmp 16))]
 [8])
 .ret)
 .skip))
 (.seq
 (.seq
 (.region
 [.mk (some 17) none (.mv (.tmp 0)),.mk (some 18) none (.nilCheck (.tmp 17)),
 .mk (some 19) none (.fld 0 (.tmp 18)),.mk (some 20) none (.fld 3 (.tmp 19)),
 .mk (some 21) none (.load false 1 (.tmp 20)),
 .mk (some 22) none (.len false (.tmp 21)),
 .mk (some 23) none (.mv (.const (.int .i64 0)))]
 [0,2,3,5,8,21,22,23])
 (.block 0 (.loop S169_3 [3,8,23] [0,2,5,21,22])))
 (.seq
 (.region
 [.mk (some 51) none
 (.build 106 [.int .i64 0,.int .i64 0,.slice none 0 0] []),
 .mk none none (.store 3 (.tmp 8) (.tmp 51))]
 [8])
 .ret)))
def S169 : FnS := ⟨52,[(8,some (true,3))],S169_0⟩
theorem tr169 : trFn Try.prog 169 [5,8,10] [[0,2,3,5,8],[0,2,3,5,8,13],[8],[0,2,3,5,8,21,22,23],[3,8,23],[0,2,5,21,22],[0,2,3,5,8,21,22,23,24],[3,8],[0,2,5,21,22,23],[0,2,3,5,8,9,10,21,22,23],[0,2,3,5,8,9,21,22,23,32],[0,2,3,5,8,9,11,21,22,23],[0,2,3,5,8,9,11,21,22,23,39],[8],[0,2,3,5,8,21,22,23],[0,2,3,5,8,21,22,23],[8]] = some S169 := by kernel_rfl
end Go.Proofs.Ytniobbepliknmaa.V
/- The text of (*parlance/rank.book).kids as a statement (slots: 0 b, 1 i, 2 p, 3 n, 4 x, 5 b, 6 i, 7 p, 8 n, 9 x, 11 l, 12 j, 13 rest); no condition. -/
namespace Go.Proofs.Ytniobbepliknmaa.V
open Go
def S201_1 : Stmt :=
 .seq
 (.seq
 (.region
 [.mk (some 27) none (.mv (.tmp 12)),.mk (some 28) none (.mv (.tmp 3)),
 .mk (some 29) none (.ibin .lss (.tmp 27) (.tmp 28)),
 .mk (some 30) none (.mv (.tmp 29)),
 .mk (some 31) (some (30,true)) (.mv (.tmp 4)),
 .mk (some 32) (some (30,true)) (.mv (.tmp 0)),
 .mk (some 33) (some (30,true)) (.mv (.tmp 1)),
 .mk (some 34) (some (30,true)) (.mv (.tmp 2)),
 .mk (some 35) (some (30,true)) (.mv (.tmp 12)),
 .mk (some 36) (some (30,true)) (.mv (.tmp 3)),
 .mk (some 37) (some (30,true))
 (.call (.func 211)
 [.tmp 32,.tmp 33,.tmp 34,.tmp 35,.tmp 36]),
 .mk (some 38) (some (30,true)) (.ibin .geq (.tmp 31) (.tmp 37)),
 .mk (some 39) none (.pick (.tmp 30) (.tmp 38) (.const (.bool false)))]
 [0,1,2,3,4,11,12,39])
 (.cond (.tmp 39) .skip (.exit 0)))
 (.seq
 (.block 1
 (.region
 [.mk (some 42) none (.mv (.tmp 4)),.mk (some 43) none (.mv (.tmp 0)),
 .mk (some 44) none (.mv (.tmp 1)),.mk (some 45) none (.mv (.tmp 2)),
 .mk (some 46) none (.mv (.tmp 12)),.mk (some 47) none (.mv (.tmp 3)),
 .mk (some 48) none
 (.call (.func 211)
 [.tmp 43,.tmp 44,.tmp 45,.tmp 46,.tmp 47]),
 .mk (some 49) none (.ibin .sub (.tmp 42) (.tmp 48)),
 .mk (some 4) none (.mv (.tmp 49))]
 [0,1,2,3,4,11,12]))
 (.region
 [.mk (some 40) none (.mv (.tmp 12)),
 .mk (some 41) none (.ibin .add (.tmp 40) (.const (.int .i64 1))),
 .mk (some 12) none (.mv (.tmp 41))]
 [0,1,2,3,4,11,12]))
def S201_0 : Stmt :=
 .seq (.region [.mk (some 10) none (.mv (.const (.slice none 0 0)))] [0,1,2,3,4])
 (.seq
 (.region
 [.mk (some 14) none (.mv (.tmp 0)),.mk (some 15) none (.nilCheck (.tmp 14)),
 .mk (some 16) none (.fld 0 (.tmp 15)),.mk (some 17) none (.fld 3 (.tmp 16)),
 .mk (some 18) none (.load false 1 (.tmp 17)),.mk (some 19) none (.mv (.tmp 1)),
 .mk (some 20) none (.idx 2 (.tmp 18) (.tmp 19)),
 .mk (some 21) none (.fld 1 (.tmp 20)),
 .mk (some 22) none (.load false 1 (.tmp 21)),.mk (some 11) none (.mv (.tmp 22))]
 [0,1,2,3,4,11])
 (.seq
 (.seq
 (.region
 [.mk (some 23) none (.mv (.tmp 2)),.mk (some 24) none (.mv (.tmp 11)),
 .mk (some 25) none (.len false (.tmp 24)),
 .mk (some 26) none (.ibin .eql (.tmp 23) (.tmp 25))]
 [0,1,2,3,4,11,26])
 (.cond (.tmp 26)
 (.seq (.region [.mk (some 10) none (.mv (.const (.slice none 0 0)))] [10])
 .ret)
 .skip))
 (.seq
 (.region [.mk (some 12) none (.mv (.const (.int .i64 0)))]
 [0,1,2,3,4,11,12])
 (.seq (.block 0 (.loop S201_1 [4,12] [0,1,2,3,11]))
 (.seq
 (.region
 [.mk (some 50) none (.mv (.tmp 0)),.mk (some 51) none (.mv (.tmp 1)),
 .mk (some 52) none (.mv (.tmp 2)),
 .mk (some 53) none (.ibin .add (.tmp 52) (.const (.int .i64 1))),
 .mk (some 54) none (.mv (.tmp 3)),.mk (some 55) none (.mv (.tmp 12)),
 .mk (some 56) none (.ibin .sub (.tmp 54) (.tmp 55)),
 .mk (some 57) none
 (.call (.func 197) [.tmp 50,.tmp 51,.tmp 53,.tmp 56]),
 .mk (some 13) none (.mv (.tmp 57))]
 [0,1,2,3,4,11,12,13])
 (.seq
 (.tree
 (.q (false,.mk (some 58) none (.mv (.tmp 0)))
 (.q (false,.mk (some 59) none (.mv (.tmp 11)))
 (.q (false,.mk (some 60) none (.mv (.tmp 2)))
 (.q (false,.mk (some 63) none (.mv (.tmp 12)))
 (.q (false,.mk (some 64) none (.mv (.tmp 4)))
 (.q (false,.mk (some 65) none (.mv (.tmp 13)))
 (.q (false,.mk (some 69) none (.mv (.tmp 0)))
 (.q (false,.mk (some 70) none (.mv (.tmp 1)))
 (.q (false,.mk (some 71) none (.mv (.tmp 2)))
 (.q (false,.mk (some 73) none (.mv (.tmp 3)))
 (.q (false,.mk (some 74) none (.mv (.tmp 12)))
 (.q (false,.mk (some 76) none (.mv (.tmp 4)))
 (.q (false,.mk (some 77) none (.mv (.tmp 13)))
 (.q
 (false,
 .mk (some 61) none (.idx 2 (.tmp 59) (.tmp 60)))
 (.q
 (false,
 .mk (some 66) none
 (.idiv .quo (.tmp 64) (.tmp 65)))
 (.q
 (false,
 .mk (some 72) none
 (.ibin .add (.tmp 71)
 (.const (.int .i64 1))))
 (.q
 (false,
 .mk (some 75) none
 (.ibin .sub (.tmp 73) (.tmp 74)))
 (.q
 (false,
 .mk (some 78) none
 (.idiv .rem (.tmp 76) (.tmp 77)))
 (.q
 (false,
 .mk (some 62) none (.load true 2 (.tmp 61)))
 (.alt
 (false,
 .mk (some 67) none
 (.call (.func 169)
 [.tmp 58,.tmp 62,.tmp 63,
 .tmp 66]))
 (.alt
 (false,
 .mk (some 68) none
 (.buildS 106 1
 [.int .i64 0,.int .i64 0,
 .slice none 0 0]
 [(0,3,.tmp 67)]))
 (.alt
 (false,
 .mk (some 79) none
 (.call (.func 201)
 [.tmp 69,.tmp 70,.tmp 72,
 .tmp 75,.tmp 78]))
 (.alt
 (false,
 .mk (some 80) none
 (.append 104 106 3 40
 (.agg
 (Array.mk
 [.int .i64 0,
 .int .i64 0,
 .slice none 0 0]))
 (.tmp 68) (.tmp 79)))
 (.q
 (false,
 .mk (some 10) none (.mv (.tmp 80)))
 .fin)
 .no)
 .no)
 (.alt
 (false,
 .mk (some 79) none
 (.call (.func 201)
 [.tmp 69,.tmp 70,.tmp 72,
 .tmp 75,.tmp 78]))
 (.alt
 (false,
 .mk (some 68) none
 (.buildS 106 1
 [.int .i64 0,.int .i64 0,
 .slice none 0 0]
 [(0,3,.tmp 67)]))
 (.alt
 (false,
 .mk (some 80) none
 (.append 104 106 3 40
 (.agg
 (Array.mk
 [.int .i64 0,
 .int .i64 0,
 .slice none 0 0]))
 (.tmp 68) (.tmp 79)))
 (.q
 (false,
 .mk (some 10) none (.mv (.tmp 80)))
 .fin)
 .no)
 .no)
 .no))
 .no))))))))))))))))))))
 [10])
 .ret))))))
def S201 : FnS := ⟨81,[(10,none)],S201_0⟩
theorem tr201 : trFn Try.prog 201 [] [[0,1,2,3,4],[0,1,2,3,4,11],[0,1,2,3,4,11,26],[10],[0,1,2,3,4,11,12],[4,12],[0,1,2,3,11],[0,1,2,3,4,11,12,39],[0,1,2,3,4,11,12],[0,1,2,3,4,11,12],[0,1,2,3,4,11,12,13],[10],[],[2,0,2,1,2,2,2,5,2,6,2,7,2,11,2,12,2,13,2,15,2,16,2,18,2,19,2,3,2,8,2,14,2,17,2,20,2,4,3,9,3,10,3,21,3,22,2,23,0,1,1,3,21,3,10,3,22,2,23,0,1,1,1,1],[],[],[],[],[1,2],[1,2,3],[],[],[],[6,7],[0,1,2,3,4,5,6,7,8],[0,1,2,3,4,5,6,7,8,9],[],[],[],[13],[],[],[15,16],[],[],[18,19],[0,1,2,3,4,5,6,7,8,9,11,12,13,14,15,16,17,18,19,20],[0,1,2,3,4,5,6,7,8,9,10,11,12,13,14,15,16,17,18,19,20,21],[0,1,2,3,4,5,6,7,8,9,10,11,12,13,14,15,16,17,18,19,20,21,22]] = some S201 := by kernel_rfl
end Go.Proofs.Ytniobbepliknmaa.V
namespace Go.Proofs.Ytniobbepliknmaa.V
open Go
set_option linter.unusedVariables false
set_option linter.unusedSimpArgs false
/- rank: tree, kids walked; no condition. -/
attribute [local go_sem] e_seq e_region e_quiet e_join e_loop e_cond e_block e_exit e_ret e_skip e_fin e_kseq e_snrm e_sret e_sex e_bnrm e_bret e_bex e_rnrm e_rret e_res e_condC e_nil e_g e_mv g_mv e_pick g_pick pickC_eq e_ibin g_ibin ibinC_eq e_sbin g_sbin e_beq g_beq beqC_eq e_nilq g_nilq nilqC_sl nilqC_pt nilqC_mp e_un g_un unC_not unC_neg e_conv g_conv convC_eq e_fld g_fld fldC_ref fldC_ptr e_nilCheck g_nilCheck nilCheckC_ref nilCheckC_ptr nilCheckC_fun e_field g_field fieldC_eq e_len g_len lenC_sl lenC_str e_extract g_extract extractC_eq e_mkFunc e_build g_build e_idiv g_idiv idivC_eq e_ishift g_ishift ishiftC_eq e_idx g_idx e_idxA g_idxA e_load g_load e_loadB g_loadB atB_ref atB_v g_mkFunc loadC_ref loadC_ptr loadB_eq e_slc g_slc e_box boxC_loc boxC_esc e_alloc allocC_loc allocC_esc e_buildS e_store storeC_ref storeC_ptr storeB_eq e_append e_appz e_mk mkC_eq e_call callC_eq e_fn g_fn fnC_eq fnV_min' fnV_max' fnV_rune' e_q g_q e_a e_n g_call g_box g_alloc g_buildS g_store g_append g_mk g_a g_n g_dead e_dead e_callK e_drawn e_tree e_finJ e_tk e_tfin e_tno e_nbt_q e_nbt_qn e_nbt_a e_nbt_an e_nbt_fin e_drawnB e_bxb_nil e_bxb e_stB_none e_stB_some boxSt_store bs_mv bs_pick bs_ibin bs_idiv bs_ishift bs_sbin bs_beq bs_nilq bs_un bs_conv bs_box bs_alloc bs_build bs_buildS bs_load bs_fld bs_nilCheck bs_idx bs_idxA bs_field bs_slc bs_len bs_append bs_appz bs_mk bs_call bs_extract bs_mkFunc bs_fn bs_q bs_a bs_n bs_loadB bs_dead isBox_box e_early_nil e_early_t e_early_f e_nob_nil e_nob_none e_nob_some isBox_dead isBox_v isBox_ref e_dnil e_dk e_ek e_finB vcOps_vc1 e_dcons e_tq e_ekt e_tearly e_talt e_dearly look_nil look_c proj_nil proj_c looks_nil looks_c zip_nil zip_c val_tmp val_const val_func slv_v slv_box slv_ref slot_tmp slot_const slot_func slotL_v slotL_box slotL_ref put_some put_none updBox_c boxSet_box gd_eq slotVals_nil slotVals_c slotVals_b boxV_box boxOn_box slotsOn_nil slotsOn_c slotsOn_b resV_one resV_two vals_nil vals_c allOn_nil allOn_c partOn_nil partOn_c partVals_nil partVals_c fits_nil fits_c fillL_nil fillL_c mkv_one mkv_agg cellsV_agg cellsV_int cellsV_bool cellsV_slice cellsV_string cellsV_pointer cellsV_func cellsV_nilf cellsV_map one'_nil one'_c oc_int oc_bool oc_slice oc_string oc_pointer oc_func oc_nilf oc_map setC_eq iv_add iv_sub iv_mul iv_eql iv_neq iv_lss iv_leq iv_gtr iv_geq iok_add iok_sub iok_mul iok_eql iok_neq iok_lss iok_leq iok_gtr iok_geq pickV_bool args0_nil args0_c bnd_none bnd_some imp_bt imp_bf imp_ebt imp_ebf imp_eb1 imp_np imp_pp beq_tt beq_tf beq_ft beq_ff cond_or cond_and e_round e_meet Int.le_refl Int.toNat_zero decide_true decide_false Bool.or_false Bool.false_or Bool.true_or Bool.or_true Bool.and_false Bool.false_and Bool.bne_false Bool.bne_true beq_iff_eq Int.cast_ofNat_Int not_false_eq_true not_true_eq_false false_and and_false false_implies true_implies true_and and_true Bool.true_and Bool.and_true Bool.not_true Bool.not_false forall_const implies_true List.take_zero List.drop_zero List.take_succ_cons List.drop_succ_cons List.take_nil List.drop_nil List.length_cons List.length_nil List.nil_append List.append_nil List.cons_append Int.toNat_natCast decide_eq_true_eq decide_eq_false_iff_not cond_true cond_false and_self List.getElem?_cons_zero List.getElem?_cons_succ List.set_cons_zero List.set_cons_succ Option.some.injEq exists_eq_left' Nat.zero_add Nat.add_zero Nat.mul_one imp_self true_or or_true or_false false_or Bool.or_eq_true Bool.or_eq_false_iff Bool.and_eq_true Bool.and_eq_false_iff Bool.not_eq_true' Bool.not_eq_false'

/-- a tree was made, and numbers were remembered -/
def TreeQ (g : Gr) (n bm : Nat) (x : Tr) (v : Value) (Γ : Ctx) : Prop := ∃ gm lst gk A c, Γ = [gm, gk] ∧ v = .agg #[.int .i64 x.rule, .int .i64 x.term, .slice A x.kids.length c] ∧ SlOk (lk [gk]) A c x.kids ∧ MapM gm bm intsV (Value.int .i64) (okInts 3) lst ∧ KnW g n lst
def KidsQ (g : Gr) (n bm : Nat) (ks : List Tr) (v : Value) (Γ : Ctx) : Prop := ∃ gm lst gk A c, Γ = [gm, gk] ∧ v = .slice A ks.length c ∧ SlOk (lk [gk]) A c ks ∧ MapM gm bm intsV (Value.int .i64) (okInts 3) lst ∧ KnW g n lst
def TreeC (g : Gr) (n b : Nat) (R : Option Addr) (cR : Nat) (An : Option Addr) (cn bm : Nat) (x : Tr) : Prop := ∀ {s : Sy} {k i : Nat}, (symL (lstT g (mostN g n)) s k)[i]? = some x → k ≤ n → (s.t = false → InS g g.st n s.n k) →
  ∀ {Γr : Ctx} {gm : PH} {lst : List (List Int × Int)}, BookK (lk Γr) b g n R cR An cn bm → MapM gm bm intsV (Value.int .i64) (okInts 3) lst → KnW g n lst →
  Ret Try.prog 169 [.pointer (some ⟨b, 0, none⟩), .agg #[.bool s.t, .int .i64 s.n], .int .i64 (k : Int), .int .i64 (i : Int)] Γr [gm] (TreeQ g n bm x)
theorem kids_of {g : Gr} {n : Nat} (F : Fine g n) (hn : n ≤ 24) {b : Nat} {R : Option Addr} {cR : Nat} {An : Option Addr} {cn bm i : Nat} (hi : i < g.rs.length) : ∀ (ks : List Tr), (∀ x ∈ ks, TreeC g n b R cR An cn bm x) → ∀ (p k x : Nat), p ≤ g.rs[i].r.length → (rowL (lstT g (mostN g n)) (g.rs[i].r.drop p) k)[x]? = some ks → k ≤ n → InR g g.st n (g.rs[i].r.drop p) k →
    ∀ {Γr : Ctx} {gm : PH} {lst : List (List Int × Int)}, BookK (lk Γr) b g n R cR An cn bm → MapM gm bm intsV (Value.int .i64) (okInts 3) lst → KnW g n lst →
    Ret Try.prog 201 [.pointer (some ⟨b, 0, none⟩), .int .i64 (i : Int), .int .i64 (p : Int), .int .i64 (k : Int), .int .i64 (x : Int)] Γr [gm] (KidsQ g n bm ks) := by
  intro ks
  induction ks with
  | nil =>
    intro _ p k x hpl hx hk hI Γr gm lst hB hM hK
    have hpe : p = g.rs[i].r.length := Classical.byContradiction fun e => by
      have hlt : p < g.rs[i].r.length := by omega
      rw [List.drop_eq_getElem_cons hlt] at hx
      obtain ⟨_, _, _, _, _, _, _, _, _, _, _, q⟩ := rowL_at (lstT_len g (mostN g n)) hx
      cases q
    generalize hRR : KidsQ g n bm _ = R'
    refine ret_of_vc tr201 (Nat.le_of_ble_eq_true rfl) ?_
    simp -implicitDefEqProofs only [S201, S201_0, go_sem, Nat.reduceBEq, Nat.reduceAdd, Nat.reduceSub, Nat.reduceMul, Nat.reduceLeDiff, reduceCtorEq, ↓reduceIte, Int.reduceLT, Int.reduceLE, Int.reduceEq, Int.reduceNe]
    have hsh := hB.rs.short
    have hvl := F.V.len
    obtain ⟨b0, o0, h0, A1, c1, hr1, hcr⟩ := hB.rs.ru hi
    refine s_ld (j := 3) (cells_lk (lk_r [gm] _ _ _ hB.out)) (by simp [bkC]) (by simp) ?_
    simp -implicitDefEqProofs only [bkC, go_sem, Nat.reduceBEq, Nat.reduceAdd, Nat.reduceSub, Nat.reduceMul, Nat.reduceLeDiff, reduceCtorEq, ↓reduceIte, Int.reduceLT, Int.reduceLE, Int.reduceEq, Int.reduceNe]
    refine s_idx h0 (by omega) (by omega) ?_
    simp -implicitDefEqProofs only [go_sem, Nat.reduceBEq, Nat.reduceAdd, Nat.reduceSub, Nat.reduceMul, Nat.reduceLeDiff, reduceCtorEq, ↓reduceIte, Int.reduceLT, Int.reduceLE, Int.reduceEq, Int.reduceNe]
    refine s_ld (j := 1) (by simpa using hcr _ (lk_r [gm] _)) (by simp) (by simp) ?_
    simp -implicitDefEqProofs only [go_sem, Nat.reduceBEq, Nat.reduceAdd, Nat.reduceSub, Nat.reduceMul, Nat.reduceLeDiff, reduceCtorEq, ↓reduceIte, Int.reduceLT, Int.reduceLE, Int.reduceEq, Int.reduceNe]
    refine ⟨fun _ => Up.emp (Up.sel [[1], [0]] (by decide) fun _ _ => ?_), fun h => absurd (by omega) h⟩
    subst hRR
    exact ⟨gm, lst, _, none, 0, rfl, rfl, SlOk.nil, hM, hK⟩
  | cons t ks ih =>
    intro htr p k x hpl hx hk hI Γr gm lst hB hM hK
    have hlt : p < g.rs[i].r.length := Classical.byContradiction fun e => by
      rw [List.drop_eq_nil_of_le (by omega)] at hx
      simp only [rowL] at hx
      split at hx
      · cases x with
        | zero => simp at hx
        | succ x => simp at hx
      · simp at hx
    have hdrop : g.rs[i].r.drop p = g.rs[i].r[p] :: g.rs[i].r.drop (p + 1) := List.drop_eq_getElem_cons hlt
    have V := F.V
    have hpart := fun {Γr : Ctx} {gm : PH} {lst : List (List Int × Int)} (j : Nat) (hj : j ≤ k) => @part_of g n F hn b R cR An cn bm i p hi hlt (ways_all F hn hi (g.rs[i].r.length - (p + 1)) (p + 1) (by omega)) j k hj hk hI Γr gm lst
    have hways := @ways_all g n F hn b R cR An cn bm i hi (g.rs[i].r.length - (p + 1)) (p + 1) (by omega)
    have hr4 := V.right _ (List.getElem_mem hi)
    have hvl := V.len
    have hsh := hB.rs.short
    have hsym := V.sym _ (List.getElem_mem hi) _ (List.getElem_mem hlt)
    obtain ⟨b0, o0, h0, A1, c1, hr1, hcr⟩ := hB.rs.ru hi
    obtain ⟨b3, o3, h3, hc3⟩ := hr1.sy hlt
    have hfew := hI.few F (mostN g n)
    rw [hdrop] at hx hI hfew
    obtain ⟨j, q, y, t', ks', hj, hq, hy, hxe, ht, hks, he⟩ := rowL_at (lstT_len g (mostN g n)) hx
    have hkl := rowL_each (List.mem_of_getElem? hks)
    rw [List.length_drop] at hkl
    simp only [List.cons.injEq] at he
    obtain ⟨rfl, rfl⟩ := he
    have hIs := fun hs => hI.sym (M := mostN g n) hj hs (by omega)
    have hIr := hI.rest (M := mostN g n) hj (by omega)
    have htc0 : TreeC g n b R cR An cn bm t := htr t (by simp)
    have htc := fun {Γr gm lst} => @htc0 g.rs[i].r[p] j q ht (by omega) hIs Γr gm lst
    have ihk := fun {Γr gm lst} => @ih (fun x hx => htr x (by simp [hx])) (p + 1) (k - j) y (by omega) hks (by omega) hIr Γr gm lst
    have hfirst := row_first (cntT g (mostN g n)) g.rs[i].r[p] (g.rs[i].r.drop (p + 1)) hj
    have hxlt := (List.getElem?_eq_some_iff.1 hx).1
    rw [rowL_len (lstT_len g (mostN g n))] at hxlt
    have hqy : q * rowT (cntT g (mostN g n)) (g.rs[i].r.drop (p + 1)) (k - j) + y < symT (cntT g (mostN g n)) g.rs[i].r[p] j * rowT (cntT g (mostN g n)) (g.rs[i].r.drop (p + 1)) (k - j) := by
      have : (q + 1) * rowT (cntT g (mostN g n)) (g.rs[i].r.drop (p + 1)) (k - j) ≤ symT (cntT g (mostN g n)) g.rs[i].r[p] j * rowT (cntT g (mostN g n)) (g.rs[i].r.drop (p + 1)) (k - j) := Nat.mul_le_mul_right _ hq
      rw [Nat.add_mul] at this
      omega
    have htotal : symT (cntT g (mostN g n)) g.rs[i].r[p] j * rowT (cntT g (mostN g n)) (g.rs[i].r.drop (p + 1)) (k - j) < 1000000000 := by omega
    generalize hRR : KidsQ g n bm _ = R'
    refine ret_of_vc tr201 (Nat.le_of_ble_eq_true rfl) ?_
    simp -implicitDefEqProofs only [S201, S201_0, go_sem, Nat.reduceBEq, Nat.reduceAdd, Nat.reduceSub, Nat.reduceMul, Nat.reduceLeDiff, reduceCtorEq, ↓reduceIte, Int.reduceLT, Int.reduceLE, Int.reduceEq, Int.reduceNe]
    generalize hT : cntT g (mostN g n) = T at *
    generalize hlL : g.rs[i].r.drop (p + 1) = l at *
    generalize hsS : g.rs[i].r[p] = s at *
    refine s_ld (j := 3) (cells_lk (lk_r [gm] _ _ _ hB.out)) (by simp [bkC]) (by simp) ?_
    simp -implicitDefEqProofs only [bkC, go_sem, Nat.reduceBEq, Nat.reduceAdd, Nat.reduceSub, Nat.reduceMul, Nat.reduceLeDiff, reduceCtorEq, ↓reduceIte, Int.reduceLT, Int.reduceLE, Int.reduceEq, Int.reduceNe]
    refine s_idx h0 (by omega) (by omega) ?_
    simp -implicitDefEqProofs only [go_sem, Nat.reduceBEq, Nat.reduceAdd, Nat.reduceSub, Nat.reduceMul, Nat.reduceLeDiff, reduceCtorEq, ↓reduceIte, Int.reduceLT, Int.reduceLE, Int.reduceEq, Int.reduceNe]
    refine s_ld (j := 1) (by simpa using hcr _ (lk_r [gm] _)) (by simp) (by simp) ?_
    simp -implicitDefEqProofs only [go_sem, Nat.reduceBEq, Nat.reduceAdd, Nat.reduceSub, Nat.reduceMul, Nat.reduceLeDiff, reduceCtorEq, ↓reduceIte, Int.reduceLT, Int.reduceLE, Int.reduceEq, Int.reduceNe]
    refine ⟨fun h => absurd h (by omega), fun _ => ?_⟩
    have hM0 := hM
    have hK0 := hK
    clear hM hK
    refine s_loop (fun f vs Γ => ∃ (gm : PH) (lst : List (List Int × Int)) (jj : Nat), vs = [.v true (.int .i64 ((x - sumN (fun j => symT T s j * rowT T l (k - j)) jj : Nat) : Int)), .v true (.int .i64 (jj : Int))] ∧ Γ = [gm] ∧ jj + f = j ∧ MapM gm bm intsV (Value.int .i64) (okInts 3) lst ∧ KnW g n lst) j
      (Up.here ⟨gm, lst, 0, rfl, rfl, by omega, hM0, hK0⟩) ?_
    clear hM0 hK0
    rintro f vs Γ ⟨gm, lst, jj, rfl, rfl, hjf, hM, hK⟩
    simp -implicitDefEqProofs only [S201_1, go_sem, Nat.reduceBEq, Nat.reduceAdd, Nat.reduceSub, Nat.reduceMul, Nat.reduceLeDiff, reduceCtorEq, ↓reduceIte, Int.reduceLT, Int.reduceLE, Int.reduceEq, Int.reduceNe]
    have hsj := sumN_mono (fun j => symT T s j * rowT T l (k - j)) (show jj ≤ j by omega)
    have hcase : jj < j ∨ jj = j := by omega
    rcases hcase with hjl | rfl
    · have hs1 := sumN_mono (fun j => symT T s j * rowT T l (k - j)) (show jj + 1 ≤ j by omega)
      rw [sumN] at hs1
      have hdk : decide ((jj : Int) < (k : Int)) = true := decide_eq_true (by omega)
      simp only [hdk]
      refine ⟨fun h => ⟨h, ?_⟩, fun h => absurd h (by decide)⟩
      refine CallVC.perm (Γm := [gm]) (Γf := []) (hpart jj (by omega) (Γr := Γr) hB hM hK) (List.Perm.refl _) (List.Sublist.refl _) ?_
      rintro v Γ' ⟨gm, lst, rfl, rfl, hM, hK⟩
      simp -implicitDefEqProofs only [go_sem, Nat.reduceBEq, Nat.reduceAdd, Nat.reduceSub, Nat.reduceMul, Nat.reduceLeDiff, reduceCtorEq, ↓reduceIte, Int.reduceLT, Int.reduceLE, Int.reduceEq, Int.reduceNe]
      refine ⟨fun _ => ?_, fun h => absurd (by omega) h⟩
      refine CallVC.perm (Γm := [gm]) (Γf := []) (hpart jj (by omega) (Γr := Γr) hB hM hK) (List.Perm.refl _) (List.Sublist.refl _) ?_
      rintro v Γ' ⟨gm, lst, rfl, rfl, hM, hK⟩
      have hw1 : IntKind.i64.wrap (((x - sumN (fun j => symT T s j * rowT T l (k - j)) jj : Nat) : Int) - ((symT T s jj * rowT T l (k - jj) : Nat) : Int)) = ((x - sumN (fun j => symT T s j * rowT T l (k - j)) (jj + 1) : Nat) : Int) := by
        rw [wrap_id (by omega) (by omega), sumN]
        omega
      simp -implicitDefEqProofs only [hw1, go_sem, Nat.reduceBEq, Nat.reduceAdd, Nat.reduceSub, Nat.reduceMul, Nat.reduceLeDiff, reduceCtorEq, ↓reduceIte, Int.reduceLT, Int.reduceLE, Int.reduceEq, Int.reduceNe]
      simp (disch := omega) only [wrap_id]
      exact ⟨f - 1, by omega, Up.here ⟨gm, lst, jj + 1, rfl, rfl, by omega, hM, hK⟩⟩
    · have hxz : x - sumN (fun j => symT T s j * rowT T l (k - j)) jj = q * rowT T l (k - jj) + y := by omega
      rw [hxz]
      refine ⟨fun h => ⟨h, ?_⟩, fun h => ⟨.int .i64 0, ?_⟩⟩
      · have hdk : decide ((jj : Int) < (k : Int)) = true := decide_eq_true h
        simp only [hdk]
        refine CallVC.perm (Γm := [gm]) (Γf := []) (hpart jj (by omega) (Γr := Γr) hB hM hK) (List.Perm.refl _) (List.Sublist.refl _) ?_
        clear hM hK
        rintro v Γ' ⟨gm, lst, rfl, rfl, hM, hK⟩
        simp -implicitDefEqProofs only [go_sem, Nat.reduceBEq, Nat.reduceAdd, Nat.reduceSub, Nat.reduceMul, Nat.reduceLeDiff, reduceCtorEq, ↓reduceIte, Int.reduceLT, Int.reduceLE, Int.reduceEq, Int.reduceNe]
        refine ⟨fun h => absurd h (by omega), fun _ => ?_⟩
        have hw3 : IntKind.i64.wrap ((p : Int) + 1) = ((p + 1 : Nat) : Int) := by rw [wrap_id (by omega) (by omega)]; rfl
        have hw4 : IntKind.i64.wrap ((k : Int) - (jj : Int)) = ((k - jj : Nat) : Int) := by rw [wrap_id (by omega) (by omega)]; omega
        have hqle := Nat.le_mul_of_pos_right q (show 0 < rowT T l (k - jj) by omega)
        have hquo : idivV .quo .i64 ((q * rowT T l (k - jj) + y : Nat) : Int) ((rowT T l (k - jj) : Nat) : Int) = .int .i64 (q : Int) := by
          show Value.int .i64 (IntKind.i64.wrap (((q * rowT T l (k - jj) + y : Nat) : Int).tdiv ((rowT T l (k - jj) : Nat) : Int))) = _
          rw [← Int.ofNat_tdiv, Nat.add_comm, Nat.add_mul_div_right _ _ (by omega), Nat.div_eq_of_lt hy, Nat.zero_add, wrap_id (by omega) (by omega)]
        have hrem' : idivV .rem .i64 ((q * rowT T l (k - jj) + y : Nat) : Int) ((rowT T l (k - jj) : Nat) : Int) = .int .i64 (y : Int) := by
          show Value.int .i64 (((q * rowT T l (k - jj) + y : Nat) : Int).tmod ((rowT T l (k - jj) : Nat) : Int)) = _
          rw [← Int.ofNat_tmod, Nat.mul_add_mod_self_right, Nat.mod_eq_of_lt hy]
        rw [hw3, hw4]
        refine CallVC.perm (Γm := [gm]) (Γf := []) (hways (k := k - jj) (by omega) hIr (Γr := Γr) hB hM hK) (List.Perm.refl _) (List.Sublist.refl _) ?_
        clear hM hK
        rintro v Γ' ⟨gm, lst, rfl, rfl, hM, hK⟩
        rw [hT]
        simp -implicitDefEqProofs only [go_sem, Nat.reduceBEq, Nat.reduceAdd, Nat.reduceSub, Nat.reduceMul, Nat.reduceLeDiff, reduceCtorEq, ↓reduceIte, Int.reduceLT, Int.reduceLE, Int.reduceEq, Int.reduceNe]
        refine ⟨[gm], [], fun ψ Γ' => ∃ (gm gk : PH) (lst : List (List Int × Int)) (A : Option Addr) (c : Nat), ψ = [(10, .v true (.slice A (t :: ks).length c))] ∧ Γ' = [gm, gk] ∧ SlOk (lk [gk]) A c (t :: ks) ∧ MapM gm bm intsV (Value.int .i64) (okInts 3) lst ∧ KnW g n lst, Ent.refl _, ?_, ?_⟩
        · simp -implicitDefEqProofs only [hw3, hw4, go_sem, Nat.reduceBEq, Nat.reduceAdd, Nat.reduceSub, Nat.reduceMul, Nat.reduceLeDiff, reduceCtorEq, ↓reduceIte, Int.reduceLT, Int.reduceLE, Int.reduceEq, Int.reduceNe]
          refine s_idx h3 (by omega) (by omega) ?_
          simp -implicitDefEqProofs only [hquo, hrem', hw3, hw4, go_sem, Nat.reduceBEq, Nat.reduceAdd, Nat.reduceSub, Nat.reduceMul, Nat.reduceLeDiff, reduceCtorEq, ↓reduceIte, Int.reduceLT, Int.reduceLE, Int.reduceEq, Int.reduceNe]
          refine ⟨by omega, by omega, ?_⟩
          refine s_ld0 (by simpa using hc3 _ (lk_r [gm] _)) (by simp) (by simp) ?_
          simp -implicitDefEqProofs only [hw3, hw4, go_sem, Nat.reduceBEq, Nat.reduceAdd, Nat.reduceSub, Nat.reduceMul, Nat.reduceLeDiff, reduceCtorEq, ↓reduceIte, Int.reduceLT, Int.reduceLE, Int.reduceEq, Int.reduceNe]
          refine CallVC.perm (Γm := [gm]) (Γf := []) (htc (Γr := Γr) hB hM hK) (List.Perm.refl _) (List.Sublist.refl _) ?_
          clear hM hK
          rintro v Γ' ⟨gm, lst, gk, At, ct, rfl, rfl, hSt, hM, hK⟩
          simp -implicitDefEqProofs only [go_sem, Nat.reduceBEq, Nat.reduceAdd, Nat.reduceSub, Nat.reduceMul, Nat.reduceLeDiff, reduceCtorEq, ↓reduceIte, Int.reduceLT, Int.reduceLE, Int.reduceEq, Int.reduceNe]
          refine ⟨fun b1 => ?_, ?_⟩
          · refine CallVC.perm (Γm := [gm]) (Γf := [_, gk]) (ihk (Γr := [_, gk] ++ Γr) (hB.mono (lk_r [_, gk] Γr)) hM hK) (List.Perm.swap gm _ _) (List.Sublist.refl _) ?_
            clear hM hK
            rintro v Γ' ⟨gm, lst, gk2, Ak, ck, rfl, rfl, hSk, hM, hK⟩
            simp -implicitDefEqProofs only [go_sem, Nat.reduceBEq, Nat.reduceAdd, Nat.reduceSub, Nat.reduceMul, Nat.reduceLeDiff, reduceCtorEq, ↓reduceIte, Int.reduceLT, Int.reduceLE, Int.reduceEq, Int.reduceNe]
            refine s_appL (α := Tr) (ix := 2) (L := lk [gk]) (L' := lk [gk2, gk]) (L2 := lk [gk2]) rfl (lit_tree (ok_tr.2 ⟨At, ct, rfl, hSt⟩)) (lk_sub (by simp)) hSk (lk_sub (by simp)) (lk_sub (by simp)) rfl (by simp; omega) (by simp; unfold maxLen; omega) ?_
            intro v' g' hB' _
            obtain ⟨A2, c2, rfl, hS2⟩ := hB'.slok (L' := lk [gk2, g', gk]) (lk_sub (by simp)) (lk_sub (by simp)) (by simp; omega)
            simp -implicitDefEqProofs only [go_sem, Nat.reduceBEq, Nat.reduceAdd, Nat.reduceSub, Nat.reduceMul, Nat.reduceLeDiff, reduceCtorEq, ↓reduceIte, Int.reduceLT, Int.reduceLE, Int.reduceEq, Int.reduceNe]
            exact Up.sel [[0], [1, 2, 3]] (by decide) fun _ hle => ⟨gm, _, lst, A2, c2, rfl, rfl, hS2.mono (hle [1, 2, 3] (by simp)), hM, hK⟩
          · refine CallVC.perm (Γm := [gm]) (Γf := [gk]) (ihk (Γr := [gk] ++ Γr) (hB.mono (lk_r [gk] Γr)) hM hK) (List.Perm.refl _) (List.Sublist.refl _) ?_
            clear hM hK
            rintro v Γ' ⟨gm, lst, gk2, Ak, ck, rfl, rfl, hSk, hM, hK⟩
            simp -implicitDefEqProofs only [go_sem, Nat.reduceBEq, Nat.reduceAdd, Nat.reduceSub, Nat.reduceMul, Nat.reduceLeDiff, reduceCtorEq, ↓reduceIte, Int.reduceLT, Int.reduceLE, Int.reduceEq, Int.reduceNe]
            intro b1
            refine s_appL (α := Tr) (ix := 0) (L := lk [gk]) (L' := lk [gk2, gk]) (L2 := lk [gk2]) rfl (lit_tree (ok_tr.2 ⟨At, ct, rfl, hSt⟩)) (lk_sub (by simp)) hSk (lk_sub (by simp)) (lk_sub (by simp)) rfl (by simp; omega) (by simp; unfold maxLen; omega) ?_
            intro v' g' hB' _
            obtain ⟨A2, c2, rfl, hS2⟩ := hB'.slok (L' := lk [g', gk2, gk]) (lk_sub (by simp)) (lk_sub (by simp)) (by simp; omega)
            simp -implicitDefEqProofs only [go_sem, Nat.reduceBEq, Nat.reduceAdd, Nat.reduceSub, Nat.reduceMul, Nat.reduceLeDiff, reduceCtorEq, ↓reduceIte, Int.reduceLT, Int.reduceLE, Int.reduceEq, Int.reduceNe]
            exact Up.sel [[1], [0, 2, 3]] (by decide) fun _ hle => ⟨gm, _, lst, A2, c2, rfl, rfl, hS2.mono (hle [0, 2, 3] (by simp)), hM, hK⟩
        · rintro ψ Γ' ⟨gm, gk, lst, A, c, rfl, rfl, hS, hM, hK⟩
          simp -implicitDefEqProofs only [go_sem, Nat.reduceBEq, Nat.reduceAdd, Nat.reduceSub, Nat.reduceMul, Nat.reduceLeDiff, reduceCtorEq, ↓reduceIte, Int.reduceLT, Int.reduceLE, Int.reduceEq, Int.reduceNe]
          refine Up.here ?_
          subst hRR
          exact ⟨gm, lst, gk, A, c, rfl, rfl, hS, hM, hK⟩
      · have hdk : decide ((jj : Int) < (k : Int)) = false := by simpa using h
        simp only [hdk]
        simp -implicitDefEqProofs only [go_sem, Nat.reduceBEq, Nat.reduceAdd, Nat.reduceSub, Nat.reduceMul, Nat.reduceLeDiff, reduceCtorEq, ↓reduceIte, Int.reduceLT, Int.reduceLE, Int.reduceEq, Int.reduceNe]
        have hw3 : IntKind.i64.wrap ((p : Int) + 1) = ((p + 1 : Nat) : Int) := by rw [wrap_id (by omega) (by omega)]; rfl
        have hw4 : IntKind.i64.wrap ((k : Int) - (jj : Int)) = ((k - jj : Nat) : Int) := by rw [wrap_id (by omega) (by omega)]; omega
        have hqle := Nat.le_mul_of_pos_right q (show 0 < rowT T l (k - jj) by omega)
        have hquo : idivV .quo .i64 ((q * rowT T l (k - jj) + y : Nat) : Int) ((rowT T l (k - jj) : Nat) : Int) = .int .i64 (q : Int) := by
          show Value.int .i64 (IntKind.i64.wrap (((q * rowT T l (k - jj) + y : Nat) : Int).tdiv ((rowT T l (k - jj) : Nat) : Int))) = _
          rw [← Int.ofNat_tdiv, Nat.add_comm, Nat.add_mul_div_right _ _ (by omega), Nat.div_eq_of_lt hy, Nat.zero_add, wrap_id (by omega) (by omega)]
        have hrem' : idivV .rem .i64 ((q * rowT T l (k - jj) + y : Nat) : Int) ((rowT T l (k - jj) : Nat) : Int) = .int .i64 (y : Int) := by
          show Value.int .i64 (((q * rowT T l (k - jj) + y : Nat) : Int).tmod ((rowT T l (k - jj) : Nat) : Int)) = _
          rw [← Int.ofNat_tmod, Nat.mul_add_mod_self_right, Nat.mod_eq_of_lt hy]
        rw [hw3, hw4]
        refine CallVC.perm (Γm := [gm]) (Γf := []) (hways (k := k - jj) (by omega) hIr (Γr := Γr) hB hM hK) (List.Perm.refl _) (List.Sublist.refl _) ?_
        clear hM hK
        rintro v Γ' ⟨gm, lst, rfl, rfl, hM, hK⟩
        rw [hT]
        simp -implicitDefEqProofs only [go_sem, Nat.reduceBEq, Nat.reduceAdd, Nat.reduceSub, Nat.reduceMul, Nat.reduceLeDiff, reduceCtorEq, ↓reduceIte, Int.reduceLT, Int.reduceLE, Int.reduceEq, Int.reduceNe]
        refine ⟨[gm], [], fun ψ Γ' => ∃ (gm gk : PH) (lst : List (List Int × Int)) (A : Option Addr) (c : Nat), ψ = [(10, .v true (.slice A (t :: ks).length c))] ∧ Γ' = [gm, gk] ∧ SlOk (lk [gk]) A c (t :: ks) ∧ MapM gm bm intsV (Value.int .i64) (okInts 3) lst ∧ KnW g n lst, Ent.refl _, ?_, ?_⟩
        · simp -implicitDefEqProofs only [hw3, hw4, go_sem, Nat.reduceBEq, Nat.reduceAdd, Nat.reduceSub, Nat.reduceMul, Nat.reduceLeDiff, reduceCtorEq, ↓reduceIte, Int.reduceLT, Int.reduceLE, Int.reduceEq, Int.reduceNe]
          refine s_idx h3 (by omega) (by omega) ?_
          simp -implicitDefEqProofs only [hquo, hrem', hw3, hw4, go_sem, Nat.reduceBEq, Nat.reduceAdd, Nat.reduceSub, Nat.reduceMul, Nat.reduceLeDiff, reduceCtorEq, ↓reduceIte, Int.reduceLT, Int.reduceLE, Int.reduceEq, Int.reduceNe]
          refine ⟨by omega, by omega, ?_⟩
          refine s_ld0 (by simpa using hc3 _ (lk_r [gm] _)) (by simp) (by simp) ?_
          simp -implicitDefEqProofs only [hw3, hw4, go_sem, Nat.reduceBEq, Nat.reduceAdd, Nat.reduceSub, Nat.reduceMul, Nat.reduceLeDiff, reduceCtorEq, ↓reduceIte, Int.reduceLT, Int.reduceLE, Int.reduceEq, Int.reduceNe]
          refine CallVC.perm (Γm := [gm]) (Γf := []) (htc (Γr := Γr) hB hM hK) (List.Perm.refl _) (List.Sublist.refl _) ?_
          clear hM hK
          rintro v Γ' ⟨gm, lst, gk, At, ct, rfl, rfl, hSt, hM, hK⟩
          simp -implicitDefEqProofs only [go_sem, Nat.reduceBEq, Nat.reduceAdd, Nat.reduceSub, Nat.reduceMul, Nat.reduceLeDiff, reduceCtorEq, ↓reduceIte, Int.reduceLT, Int.reduceLE, Int.reduceEq, Int.reduceNe]
          refine ⟨fun b1 => ?_, ?_⟩
          · refine CallVC.perm (Γm := [gm]) (Γf := [_, gk]) (ihk (Γr := [_, gk] ++ Γr) (hB.mono (lk_r [_, gk] Γr)) hM hK) (List.Perm.swap gm _ _) (List.Sublist.refl _) ?_
            clear hM hK
            rintro v Γ' ⟨gm, lst, gk2, Ak, ck, rfl, rfl, hSk, hM, hK⟩
            simp -implicitDefEqProofs only [go_sem, Nat.reduceBEq, Nat.reduceAdd, Nat.reduceSub, Nat.reduceMul, Nat.reduceLeDiff, reduceCtorEq, ↓reduceIte, Int.reduceLT, Int.reduceLE, Int.reduceEq, Int.reduceNe]
            refine s_appL (α := Tr) (ix := 2) (L := lk [gk]) (L' := lk [gk2, gk]) (L2 := lk [gk2]) rfl (lit_tree (ok_tr.2 ⟨At, ct, rfl, hSt⟩)) (lk_sub (by simp)) hSk (lk_sub (by simp)) (lk_sub (by simp)) rfl (by simp; omega) (by simp; unfold maxLen; omega) ?_
            intro v' g' hB' _
            obtain ⟨A2, c2, rfl, hS2⟩ := hB'.slok (L' := lk [gk2, g', gk]) (lk_sub (by simp)) (lk_sub (by simp)) (by simp; omega)
            simp -implicitDefEqProofs only [go_sem, Nat.reduceBEq, Nat.reduceAdd, Nat.reduceSub, Nat.reduceMul, Nat.reduceLeDiff, reduceCtorEq, ↓reduceIte, Int.reduceLT, Int.reduceLE, Int.reduceEq, Int.reduceNe]
            exact Up.sel [[0], [1, 2, 3]] (by decide) fun _ hle => ⟨gm, _, lst, A2, c2, rfl, rfl, hS2.mono (hle [1, 2, 3] (by simp)), hM, hK⟩
          · refine CallVC.perm (Γm := [gm]) (Γf := [gk]) (ihk (Γr := [gk] ++ Γr) (hB.mono (lk_r [gk] Γr)) hM hK) (List.Perm.refl _) (List.Sublist.refl _) ?_
            clear hM hK
            rintro v Γ' ⟨gm, lst, gk2, Ak, ck, rfl, rfl, hSk, hM, hK⟩
            simp -implicitDefEqProofs only [go_sem, Nat.reduceBEq, Nat.reduceAdd, Nat.reduceSub, Nat.reduceMul, Nat.reduceLeDiff, reduceCtorEq, ↓reduceIte, Int.reduceLT, Int.reduceLE, Int.reduceEq, Int.reduceNe]
            intro b1
            refine s_appL (α := Tr) (ix := 0) (L := lk [gk]) (L' := lk [gk2, gk]) (L2 := lk [gk2]) rfl (lit_tree (ok_tr.2 ⟨At, ct, rfl, hSt⟩)) (lk_sub (by simp)) hSk (lk_sub (by simp)) (lk_sub (by simp)) rfl (by simp; omega) (by simp; unfold maxLen; omega) ?_
            intro v' g' hB' _
            obtain ⟨A2, c2, rfl, hS2⟩ := hB'.slok (L' := lk [g', gk2, gk]) (lk_sub (by simp)) (lk_sub (by simp)) (by simp; omega)
            simp -implicitDefEqProofs only [go_sem, Nat.reduceBEq, Nat.reduceAdd, Nat.reduceSub, Nat.reduceMul, Nat.reduceLeDiff, reduceCtorEq, ↓reduceIte, Int.reduceLT, Int.reduceLE, Int.reduceEq, Int.reduceNe]
            exact Up.sel [[1], [0, 2, 3]] (by decide) fun _ hle => ⟨gm, _, lst, A2, c2, rfl, rfl, hS2.mono (hle [0, 2, 3] (by simp)), hM, hK⟩
        · rintro ψ Γ' ⟨gm, gk, lst, A, c, rfl, rfl, hS, hM, hK⟩
          simp -implicitDefEqProofs only [go_sem, Nat.reduceBEq, Nat.reduceAdd, Nat.reduceSub, Nat.reduceMul, Nat.reduceLeDiff, reduceCtorEq, ↓reduceIte, Int.reduceLT, Int.reduceLE, Int.reduceEq, Int.reduceNe]
          refine Up.here ?_
          subst hRR
          exact ⟨gm, lst, gk, A, c, rfl, rfl, hS, hM, hK⟩
theorem book_tree {g : Gr} {n : Nat} (F : Fine g n) (hn : n ≤ 24) {b : Nat} {R : Option Addr} {cR : Nat} {An : Option Addr} {cn bm : Nat} (x : Tr) : TreeC g n b R cR An cn bm x := by
  refine Tr.ind (p := fun x => TreeC g n b R cR An cn bm x) (fun x ih => ?_) x
  intro s k i hx hk hI Γr gm lst hB hM hK
  generalize hRR : TreeQ g n bm x = R'
  refine ret_of_vc tr169 (Nat.le_of_ble_eq_true rfl) ?_
  obtain ⟨st, sn⟩ := s
  cases st with
  | true =>
    simp -implicitDefEqProofs only [S169, S169_0, go_sem, Nat.reduceBEq, Nat.reduceAdd, Nat.reduceSub, Nat.reduceMul, Nat.reduceLeDiff, reduceCtorEq, ↓reduceIte, Int.reduceLT, Int.reduceLE, Int.reduceEq, Int.reduceNe]
    have hx1 : x = ⟨-1, sn, []⟩ := by
      unfold symL at hx
      simp only [if_true] at hx
      split at hx
      · cases i with
        | zero => simp at hx; exact hx.symm
        | succ i => simp at hx
      · simp at hx
    refine Up.emp (Up.sel [[1], [0]] (by decide) fun _ _ => ?_)
    subst hRR
    subst hx1
    exact ⟨gm, lst, _, none, 0, rfl, rfl, SlOk.nil, hM, hK⟩
  | false =>
    have hI := hI rfl
    have hfin := hI.fin F hk
    have hfew := hI.few F (mostN g n + 1)
    have hlst := lstT_eq (g := g) (show mostN g n ≤ mostN g n + 1 by omega) (hfin (mostN g n + 1) (by omega)).symm
    have hx : (lstT g (mostN g n) sn k)[i]? = some x := hx
    rw [hlst] at hx
    obtain ⟨p, y, ks, hp, hpl, hy, hie, hks, rfl⟩ := rulL_at (lstT_len g (mostN g n)) hx
    have hcnt : cntT g (mostN g n + 1) sn k = sumR (cntT g (mostN g n)) sn k g.rs := rfl
    rw [hcnt] at hfew
    have hvl := F.V.len
    have hsh := hB.rs.short
    have hways := fun (q : Nat) (hq : q < g.rs.length) => @ways_all g n F hn b R cR An cn bm q hq g.rs[q].r.length 0 (by omega)
    have hkids := fun {Γr gm lst} => @kids_of g n F hn b R cR An cn bm p hp ks (fun z hz => ih z hz) 0 k y (by omega) (by rw [List.drop_zero]; exact hks) hk (by rw [List.drop_zero]; exact hI.rule (List.getElem_mem hp) hpl) Γr gm lst
    generalize hT : cntT g (mostN g n) = T at *
    have hyr : sumR T sn k (g.rs.take p) + rowT T g.rs[p].r k ≤ sumR T sn k g.rs := by
      have h1 := sumR_take T sn k g.rs (p + 1)
      rw [List.take_succ_eq_append_getElem hp, sumR_snoc, if_pos hpl] at h1
      exact h1
    simp -implicitDefEqProofs only [S169, S169_0, go_sem, Nat.reduceBEq, Nat.reduceAdd, Nat.reduceSub, Nat.reduceMul, Nat.reduceLeDiff, reduceCtorEq, ↓reduceIte, Int.reduceLT, Int.reduceLE, Int.reduceEq, Int.reduceNe]
    intro b5 b8
    refine s_ld (j := 3) (cells_lk (lk_r [gm] _ _ _ hB.out)) (by simp [bkC]) (by simp) ?_
    simp -implicitDefEqProofs only [bkC, go_sem, Nat.reduceBEq, Nat.reduceAdd, Nat.reduceSub, Nat.reduceMul, Nat.reduceLeDiff, reduceCtorEq, ↓reduceIte, Int.reduceLT, Int.reduceLE, Int.reduceEq, Int.reduceNe]
    have hM0 := hM
    have hK0 := hK
    clear hM hK
    refine s_loop (fun f vs Γ => ∃ (gm : PH) (lst : List (List Int × Int)) (q : Nat), vs = [.v true (.int .i64 ((i - sumR T sn k (g.rs.take q) : Nat) : Int)), .box b8 106 [.int .i64 0, .int .i64 0, .slice none 0 0], .v true (.int .i64 (q : Int))] ∧ Γ = [gm] ∧ q + f = p ∧ MapM gm bm intsV (Value.int .i64) (okInts 3) lst ∧ KnW g n lst) p
      (Up.here ⟨gm, lst, 0, by rw [List.take_zero]; rfl, rfl, by omega, hM0, hK0⟩) ?_
    clear hM0 hK0
    rintro f vs Γ ⟨gm, lst, q, rfl, rfl, hqf, hM, hK⟩
    simp -implicitDefEqProofs only [S169_3, go_sem, Nat.reduceBEq, Nat.reduceAdd, Nat.reduceSub, Nat.reduceMul, Nat.reduceLeDiff, reduceCtorEq, ↓reduceIte, Int.reduceLT, Int.reduceLE, Int.reduceEq, Int.reduceNe]
    refine ⟨fun _ => ?_, fun h => absurd (by omega) h⟩
    have hq : q < g.rs.length := by omega
    have htk : g.rs.take (q + 1) = g.rs.take q ++ [g.rs[q]] := List.take_succ_eq_append_getElem hq
    have hsn := sumR_snoc T sn k g.rs[q] (g.rs.take q)
    rw [← htk] at hsn
    obtain ⟨b4, o4, h4, A4, c4, hr4', hc4⟩ := hB.rs.ru hq
    have hqp : sumR T sn k (g.rs.take q) ≤ sumR T sn k (g.rs.take p) := by
      have := sumR_take T sn k (g.rs.take p) q
      rwa [List.take_take, Nat.min_eq_left (by omega)] at this
    refine s_join (fun vs Γ => q < p ∧ ∃ (gm : PH) (lst : List (List Int × Int)), vs = [.v true (.int .i64 ((i - sumR T sn k (g.rs.take (q + 1)) : Nat) : Int)), .box b8 106 [.int .i64 0, .int .i64 0, .slice none 0 0]] ∧ Γ = [gm] ∧ MapM gm bm intsV (Value.int .i64) (okInts 3) lst ∧ KnW g n lst) ?_ ?_
    · simp -implicitDefEqProofs only [S169_1, go_sem, Nat.reduceBEq, Nat.reduceAdd, Nat.reduceSub, Nat.reduceMul, Nat.reduceLeDiff, reduceCtorEq, ↓reduceIte, Int.reduceLT, Int.reduceLE, Int.reduceEq, Int.reduceNe]
      refine s_idx h4 (by omega) (by omega) ?_
      simp -implicitDefEqProofs only [go_sem, Nat.reduceBEq, Nat.reduceAdd, Nat.reduceSub, Nat.reduceMul, Nat.reduceLeDiff, reduceCtorEq, ↓reduceIte, Int.reduceLT, Int.reduceLE, Int.reduceEq, Int.reduceNe]
      refine s_ld0 (by simpa using hc4 _ (lk_r [gm] _)) (by simp) (by simp) ?_
      simp -implicitDefEqProofs only [go_sem, Nat.reduceBEq, Nat.reduceAdd, Nat.reduceSub, Nat.reduceMul, Nat.reduceLeDiff, reduceCtorEq, ↓reduceIte, Int.reduceLT, Int.reduceLE, Int.reduceEq, Int.reduceNe]
      have hpl : g.rs[p].l = sn := hpl
      have hie : i = sumR T sn k (g.rs.take p) + y := hie
      refine ⟨fun hne => Up.here ⟨?_, gm, lst, ?_, rfl, hM, hK⟩, fun heq => ?_⟩
      · rcases Nat.lt_or_ge q p with c | c
        · exact c
        · have : q = p := by omega
          subst this
          exact absurd hpl hne
      · rw [if_neg hne] at hsn
        simp only [hsn, Nat.add_zero]
      · rw [if_pos heq] at hsn
        have hwk := @hways q hq k hk (by rw [List.drop_zero]; exact hI.rule (List.getElem_mem hq) heq) Γr gm lst hB hM hK
        rw [List.drop_zero, hT] at hwk
        refine CallVC.perm (Γm := [gm]) (Γf := []) hwk (List.Perm.refl _) (List.Sublist.refl _) ?_
        clear hM hK
        rintro v Γ' ⟨gm, lst, rfl, rfl, hM, hK⟩
        simp -implicitDefEqProofs only [go_sem, Nat.reduceBEq, Nat.reduceAdd, Nat.reduceSub, Nat.reduceMul, Nat.reduceLeDiff, reduceCtorEq, ↓reduceIte, Int.reduceLT, Int.reduceLE, Int.reduceEq, Int.reduceNe]
        refine ⟨fun hlt => ?_, fun hge => ?_⟩
        · have hqe : q = p := by
            rcases Nat.lt_or_ge q p with c | c
            · have hqp1 : sumR T sn k (g.rs.take (q + 1)) ≤ sumR T sn k (g.rs.take p) := by
                have := sumR_take T sn k (g.rs.take p) (q + 1)
                rwa [List.take_take, Nat.min_eq_left (by omega)] at this
              omega
            · omega
          subst hqe
          have hiy : i - sumR T sn k (g.rs.take q) = y := by omega
          rw [hiy]
          refine CallVC.perm (Γm := [gm]) (Γf := []) (hkids (Γr := Γr) hB hM hK) (List.Perm.refl _) (List.Sublist.refl _) ?_
          clear hM hK
          rintro v Γ' ⟨gm, lst, gk, A, c, rfl, rfl, hS, hM, hK⟩
          simp -implicitDefEqProofs only [go_sem, Nat.reduceBEq, Nat.reduceAdd, Nat.reduceSub, Nat.reduceMul, Nat.reduceLeDiff, reduceCtorEq, ↓reduceIte, Int.reduceLT, Int.reduceLE, Int.reduceEq, Int.reduceNe]
          refine Up.here ?_
          subst hRR
          exact ⟨gm, lst, gk, A, c, rfl, rfl, hS, hM, hK⟩
        · have hql : q < p := by
            rcases Nat.lt_or_ge q p with c | c
            · exact c
            · have : q = p := by omega
              subst this
              omega
          have hqp1 : sumR T sn k (g.rs.take (q + 1)) ≤ sumR T sn k (g.rs.take p) := by
            have := sumR_take T sn k (g.rs.take p) (q + 1)
            rwa [List.take_take, Nat.min_eq_left (by omega)] at this
          have hw1 : IntKind.i64.wrap (((i - sumR T sn k (g.rs.take q) : Nat) : Int) - ((rowT T g.rs[q].r k : Nat) : Int)) = ((i - sumR T sn k (g.rs.take (q + 1)) : Nat) : Int) := by
            rw [wrap_id (by omega) (by omega)]
            omega
          rw [hw1]
          exact Up.here ⟨hql, gm, lst, rfl, rfl, hM, hK⟩
    · rintro vs Γ' ⟨hqlt, gm, lst, rfl, rfl, hM, hK⟩
      simp -implicitDefEqProofs only [S169_2, go_sem, Nat.reduceBEq, Nat.reduceAdd, Nat.reduceSub, Nat.reduceMul, Nat.reduceLeDiff, reduceCtorEq, ↓reduceIte, Int.reduceLT, Int.reduceLE, Int.reduceEq, Int.reduceNe]
      simp (disch := omega) only [wrap_id]
      exact ⟨f - 1, by omega, Up.here ⟨gm, lst, q + 1, rfl, rfl, by omega, hM, hK⟩⟩
end Go.Proofs.Ytniobbepliknmaa.V
/- The text of parlance/rank.Tree as a statement (slots: 0 g, 1 n, 2 i, 3 g, 4 n, 5 i, 8 b, 9 all, 10 e); no condition. -/
namespace Go.Proofs.Ytniobbepliknmaa.V
open Go
def S104_0 : Stmt :=
 .seq
 (.region
 [.mk (some 3) none (.box true 57 (.tmp 0)),
 .mk (some 6) none
 (.alloc true 106
 (.agg (Array.mk [.int .i64 0,.int .i64 0,.slice none 0 0]))),
 .mk (some 7) none (.mv (.const (.int .i64 0)))]
 [1,2,3,6])
 (.seq
 (.region
 [.mk (some 12) none (.load true 4 (.tmp 3)),.mk (some 13) none (.mv (.tmp 1)),
 .mk (some 14) none (.call (.func 164) [.tmp 12,.tmp 13]),
 .mk (some 11) none (.mv (.tmp 14)),.mk (some 15) none (.extract 0 (.tmp 11)),
 .mk (some 16) none (.extract 1 (.tmp 11)),
 .mk (some 17) none (.extract 2 (.tmp 11)),.mk (some 8) none (.mv (.tmp 15)),
 .mk (some 9) none (.mv (.tmp 16)),.mk (some 10) none (.mv (.tmp 17))]
 [1,2,3,6,8,9,10])
 (.seq
 (.seq
 (.region
 [.mk (some 18) none (.mv (.tmp 10)),
 .mk (some 19) none (.ibin .neq (.tmp 18) (.const (.int .i64 0)))]
 [1,2,3,6,8,9,10,19])
 (.cond (.tmp 19)
 (.seq
 (.region
 [.mk (some 20) none
 (.build 106 [.int .i64 0,.int .i64 0,.slice none 0 0] []),
 .mk (some 21) none (.mv (.tmp 10)),
 .mk none none (.store 3 (.tmp 6) (.tmp 20)),
 .mk (some 7) none (.mv (.tmp 21))]
 [6,7])
 .ret)
 .skip))
 (.seq
 (.seq
 (.region
 [.mk (some 22) none (.mv (.tmp 2)),
 .mk (some 23) none (.ibin .lss (.tmp 22) (.const (.int .i64 0))),
 .mk (some 24) none (.mv (.tmp 23)),
 .mk (some 25) (some (24,false)) (.mv (.tmp 2)),
 .mk (some 26) (some (24,false)) (.mv (.tmp 9)),
 .mk (some 27) (some (24,false)) (.ibin .geq (.tmp 25) (.tmp 26)),
 .mk (some 28) none (.pick (.tmp 24) (.const (.bool true)) (.tmp 27))]
 [1,2,3,6,8,28])
 (.cond (.tmp 28)
 (.seq
 (.region
 [.mk (some 29) none
 (.build 106 [.int .i64 0,.int .i64 0,.slice none 0 0] []),
 .mk none none (.store 3 (.tmp 6) (.tmp 29)),
 .mk (some 7) none (.mv (.const (.int .i64 5)))]
 [6,7])
 .ret)
 .skip))
 (.seq
 (.region
 [.mk (some 30) none (.mv (.tmp 8)),.mk (some 31) none (.fld 2 (.tmp 3)),
 .mk (some 32) none (.load false 1 (.tmp 31)),
 .mk (some 33) none
 (.build 39 [.bool false,.int .i64 0] [(1,1,.tmp 32)]),
 .mk (some 34) none (.mv (.tmp 1)),.mk (some 35) none (.mv (.tmp 2)),
 .mk (some 36) none
 (.call (.func 169) [.tmp 30,.tmp 33,.tmp 34,.tmp 35]),
 .mk none none (.store 3 (.tmp 6) (.tmp 36)),
 .mk (some 7) none (.mv (.const (.int .i64 0)))]
 [6,7])
 .ret))))
def S104 : FnS := ⟨37,[(6,some (true,3)),(7,none)],S104_0⟩
theorem tr104 : trFn Try.prog 104 [3,6] [[1,2,3,6],[1,2,3,6,8,9,10],[1,2,3,6,8,9,10,19],[6,7],[1,2,3,6,8,28],[6,7],[6,7]] = some S104 := by kernel_rfl
end Go.Proofs.Ytniobbepliknmaa.V
namespace Go.Proofs.Ytniobbepliknmaa.V
open Go
set_option linter.unusedVariables false
set_option linter.unusedSimpArgs false
/- rank.Tree walked; no condition. -/
attribute [local go_sem] e_seq e_region e_quiet e_join e_loop e_cond e_block e_exit e_ret e_skip e_fin e_kseq e_snrm e_sret e_sex e_bnrm e_bret e_bex e_rnrm e_rret e_res e_condC e_nil e_g e_mv g_mv e_pick g_pick pickC_eq e_ibin g_ibin ibinC_eq e_sbin g_sbin e_beq g_beq beqC_eq e_nilq g_nilq nilqC_sl nilqC_pt nilqC_mp e_un g_un unC_not unC_neg e_conv g_conv convC_eq e_fld g_fld fldC_ref fldC_ptr e_nilCheck g_nilCheck nilCheckC_ref nilCheckC_ptr nilCheckC_fun e_field g_field fieldC_eq e_len g_len lenC_sl lenC_str e_extract g_extract extractC_eq e_mkFunc e_build g_build e_idiv g_idiv idivC_eq e_ishift g_ishift ishiftC_eq e_idx g_idx e_idxA g_idxA e_load g_load e_loadB g_loadB atB_ref atB_v g_mkFunc loadC_ref loadC_ptr loadB_eq e_slc g_slc e_box boxC_loc boxC_esc e_alloc allocC_loc allocC_esc e_buildS e_store storeC_ref storeC_ptr storeB_eq e_append e_appz e_mk mkC_eq e_call callC_eq e_fn g_fn fnC_eq fnV_min' fnV_max' fnV_rune' e_q g_q e_a e_n g_call g_box g_alloc g_buildS g_store g_append g_mk g_a g_n g_dead e_dead e_callK e_drawn e_tree e_finJ e_tk e_tfin e_tno e_nbt_q e_nbt_qn e_nbt_a e_nbt_an e_nbt_fin e_drawnB e_bxb_nil e_bxb e_stB_none e_stB_some boxSt_store bs_mv bs_pick bs_ibin bs_idiv bs_ishift bs_sbin bs_beq bs_nilq bs_un bs_conv bs_box bs_alloc bs_build bs_buildS bs_load bs_fld bs_nilCheck bs_idx bs_idxA bs_field bs_slc bs_len bs_append bs_appz bs_mk bs_call bs_extract bs_mkFunc bs_fn bs_q bs_a bs_n bs_loadB bs_dead isBox_box e_early_nil e_early_t e_early_f e_nob_nil e_nob_none e_nob_some isBox_dead isBox_v isBox_ref e_dnil e_dk e_ek e_finB vcOps_vc1 e_dcons e_tq e_ekt e_tearly e_talt e_dearly look_nil look_c proj_nil proj_c looks_nil looks_c zip_nil zip_c val_tmp val_const val_func slv_v slv_box slv_ref slot_tmp slot_const slot_func slotL_v slotL_box slotL_ref put_some put_none updBox_c boxSet_box gd_eq slotVals_nil slotVals_c slotVals_b boxV_box boxOn_box slotsOn_nil slotsOn_c slotsOn_b resV_one resV_two vals_nil vals_c allOn_nil allOn_c partOn_nil partOn_c partVals_nil partVals_c fits_nil fits_c fillL_nil fillL_c mkv_one mkv_agg cellsV_agg cellsV_int cellsV_bool cellsV_slice cellsV_string cellsV_pointer cellsV_func cellsV_nilf cellsV_map one'_nil one'_c oc_int oc_bool oc_slice oc_string oc_pointer oc_func oc_nilf oc_map setC_eq iv_add iv_sub iv_mul iv_eql iv_neq iv_lss iv_leq iv_gtr iv_geq iok_add iok_sub iok_mul iok_eql iok_neq iok_lss iok_leq iok_gtr iok_geq pickV_bool args0_nil args0_c bnd_none bnd_some imp_bt imp_bf imp_ebt imp_ebf imp_eb1 imp_np imp_pp beq_tt beq_tf beq_ft beq_ff cond_or cond_and e_round e_meet Int.le_refl Int.toNat_zero decide_true decide_false Bool.or_false Bool.false_or Bool.true_or Bool.or_true Bool.and_false Bool.false_and Bool.bne_false Bool.bne_true beq_iff_eq Int.cast_ofNat_Int not_false_eq_true not_true_eq_false false_and and_false false_implies true_implies true_and and_true Bool.true_and Bool.and_true Bool.not_true Bool.not_false forall_const implies_true List.take_zero List.drop_zero List.take_succ_cons List.drop_succ_cons List.take_nil List.drop_nil List.length_cons List.length_nil List.nil_append List.append_nil List.cons_append Int.toNat_natCast decide_eq_true_eq decide_eq_false_iff_not cond_true cond_false and_self List.getElem?_cons_zero List.getElem?_cons_succ List.set_cons_zero List.set_cons_succ Option.some.injEq exists_eq_left' Nat.zero_add Nat.add_zero Nat.mul_one imp_self true_or or_true or_false false_or Bool.or_eq_true Bool.or_eq_false_iff Bool.and_eq_true Bool.and_eq_false_iff Bool.not_eq_true' Bool.not_eq_false'

/-- what Tree answers -/
def RTreeR (g : Gr) (n i : Int) (v : Value) (Γ : Ctx) : Prop := (opE g n ≠ 0 ∧ Γ = [] ∧ v = .tuple #[.agg #[.int .i64 0, .int .i64 0, .slice none 0 0], .int .i64 (opE g n)]) ∨
  (opE g n = 0 ∧ ∃ m : Nat, n = m ∧ m ≤ 24 ∧ Fine g m ∧ (((i < 0 ∨ (cntT g (mostN g m) g.st m : Int) ≤ i) ∧ Γ = [] ∧ v = .tuple #[.agg #[.int .i64 0, .int .i64 0, .slice none 0 0], .int .i64 5]) ∨
    (∃ (k : Nat) (x : Tr) (gk : PH) (A : Option Addr) (c : Nat), i = k ∧ (lstT g (mostN g m) g.st m)[k]? = some x ∧ Γ = [gk] ∧ v = .tuple #[.agg #[.int .i64 x.rule, .int .i64 x.term, .slice A x.kids.length c], .int .i64 0] ∧ SlOk (lk [gk]) A c x.kids)))
theorem rank_tree {Γr : Ctx} {g : Gr} {R : Option Addr} {cR : Nat} (hx : SlOk (lk Γr) R cR g.rs) {n i : Int} (hn : -9223372036854775808 ≤ n ∧ n ≤ 9223372036854775807) :
    Ret Try.prog 104 [.agg #[.int .i64 g.ts, .int .i64 g.ns, .int .i64 g.st, .slice R g.rs.length cR], .int .i64 n, .int .i64 i] Γr [] (RTreeR g n i) := by
  generalize hR : RTreeR g n i = R'
  refine ret_of_vc tr104 (Nat.le_of_ble_eq_true rfl) ?_
  simp -implicitDefEqProofs only [S104, S104_0, go_sem, Nat.reduceBEq, Nat.reduceAdd, Nat.reduceSub, Nat.reduceMul, Nat.reduceLeDiff, reduceCtorEq, ↓reduceIte, Int.reduceLT, Int.reduceLE, Int.reduceEq, Int.reduceNe]
  intro bg bt
  refine CallVC.read (Γ := []) (rank_open (Γr := [] ++ Γr) hx hn) ?_
  rintro v Γ' (⟨hne, rfl, rfl⟩ | ⟨h0, m, gb, gm, go, b, An, cn, bm, rfl, hm, F, rfl, rfl, hB, hM⟩)
  · simp -implicitDefEqProofs only [go_sem, Nat.reduceBEq, Nat.reduceAdd, Nat.reduceSub, Nat.reduceMul, Nat.reduceLeDiff, reduceCtorEq, ↓reduceIte, Int.reduceLT, Int.reduceLE, Int.reduceEq, Int.reduceNe]
    refine ⟨fun _ => Up.here ?_, fun h => absurd h hne⟩
    subst hR
    exact .inl ⟨hne, rfl, rfl⟩
  · simp -implicitDefEqProofs only [go_sem, Nat.reduceBEq, Nat.reduceAdd, Nat.reduceSub, Nat.reduceMul, Nat.reduceLeDiff, reduceCtorEq, ↓reduceIte, Int.reduceLT, Int.reduceLE, Int.reduceEq, Int.reduceNe]
    refine ⟨fun hbad => Up.to [] (Ent.nil _) ?_, fun hok => ?_⟩
    · subst hR
      exact .inr ⟨h0, m, rfl, hm, F, .inl ⟨hbad, rfl, rfl⟩⟩
    · obtain ⟨k, rfl⟩ : ∃ k : Nat, i = k := ⟨i.toNat, by omega⟩
      have hlen := lstT_len g (mostN g m) g.st m
      have hk : k < (lstT g (mostN g m) g.st m).length := by omega
      have hget : (symL (lstT g (mostN g m)) ⟨false, g.st⟩ m)[k]? = some (lstT g (mostN g m) g.st m)[k] := List.getElem?_eq_getElem hk
      have hget2 : (lstT g (mostN g m) g.st m)[k]? = some (lstT g (mostN g m) g.st m)[k] := List.getElem?_eq_getElem hk
      generalize (lstT g (mostN g m) g.st m)[k] = x at hget hget2
      refine CallVC.perm (Γm := [gm]) (Γf := [gb, go]) (book_tree F hm x hget (Nat.le_refl _) (fun _ => InS.self g g.st m) (Γr := [gb, go] ++ Γr) hB hM (fun i p k w r h => by simp [mget] at h)) (List.Perm.swap gm gb _) (List.Sublist.refl _) ?_
      rintro v Γ' ⟨gm', lst', gk, A, c, rfl, rfl, hS, hM', hK'⟩
      simp -implicitDefEqProofs only [go_sem, Nat.reduceBEq, Nat.reduceAdd, Nat.reduceSub, Nat.reduceMul, Nat.reduceLeDiff, reduceCtorEq, ↓reduceIte, Int.reduceLT, Int.reduceLE, Int.reduceEq, Int.reduceNe]
      refine Up.sel [[1]] (by decide) fun _ _ => ?_
      subst hR
      exact .inr ⟨h0, m, rfl, hm, F, .inr ⟨k, x, gk, A, c, rfl, hget2, rfl, rfl, hS⟩⟩
end Go.Proofs.Ytniobbepliknmaa.V
/- The text of parlance/draw.Tree as a statement (slots: 0 g, 1 n, 2 coins, 3 g, 4 n, 5 coins, 9 all, 10 e, 11 i, 12 used, 13 t); no condition. -/
namespace Go.Proofs.Ytniobbepliknmaa.V
open Go
def S101_0 : Stmt :=
 .seq
 (.region
 [.mk (some 3) none (.box true 57 (.tmp 0)),
 .mk (some 6) none
 (.alloc true 106
 (.agg (Array.mk [.int .i64 0,.int .i64 0,.slice none 0 0]))),
 .mk (some 7) none (.mv (.const (.int .i64 0))),
 .mk (some 8) none (.mv (.const (.int .i64 0)))]
 [1,2,3,6])
 (.seq
 (.region
 [.mk (some 15) none (.load true 4 (.tmp 3)),.mk (some 16) none (.mv (.tmp 1)),
 .mk (some 17) none (.call (.func 98) [.tmp 15,.tmp 16]),
 .mk (some 14) none (.mv (.tmp 17)),.mk (some 18) none (.extract 0 (.tmp 14)),
 .mk (some 19) none (.extract 1 (.tmp 14)),.mk (some 9) none (.mv (.tmp 18)),
 .mk (some 10) none (.mv (.tmp 19))]
 [1,2,3,6,9,10])
 (.seq
 (.seq
 (.region
 [.mk (some 20) none (.mv (.tmp 10)),
 .mk (some 21) none (.ibin .neq (.tmp 20) (.const (.int .i64 0)))]
 [1,2,3,6,9,10,21])
 (.cond (.tmp 21)
 (.seq
 (.region
 [.mk (some 22) none
 (.build 106 [.int .i64 0,.int .i64 0,.slice none 0 0] []),
 .mk (some 23) none (.mv (.tmp 10)),
 .mk none none (.store 3 (.tmp 6) (.tmp 22)),
 .mk (some 7) none (.mv (.const (.int .i64 0))),
 .mk (some 8) none (.mv (.tmp 23))]
 [6,7,8])
 .ret)
 .skip))
 (.seq
 (.seq
 (.region
 [.mk (some 24) none (.mv (.tmp 9)),
 .mk (some 25) none (.ibin .eql (.tmp 24) (.const (.int .i64 0)))]
 [1,2,3,6,9,25])
 (.cond (.tmp 25)
 (.seq
 (.region
 [.mk (some 26) none
 (.build 106 [.int .i64 0,.int .i64 0,.slice none 0 0] []),
 .mk none none (.store 3 (.tmp 6) (.tmp 26)),
 .mk (some 7) none (.mv (.const (.int .i64 0))),
 .mk (some 8) none (.mv (.const (.int .i64 10)))]
 [6,7,8])
 .ret)
 .skip))
 (.seq
 (.region
 [.mk (some 28) none (.mv (.tmp 9)),.mk (some 29) none (.mv (.tmp 2)),
 .mk (some 30) none (.call (.func 21) [.tmp 28,.tmp 29]),
 .mk (some 27) none (.mv (.tmp 30)),
 .mk (some 31) none (.extract 0 (.tmp 27)),
 .mk (some 32) none (.extract 1 (.tmp 27)),
 .mk (some 33) none (.extract 2 (.tmp 27)),
 .mk (some 11) none (.mv (.tmp 31)),.mk (some 12) none (.mv (.tmp 32)),
 .mk (some 10) none (.mv (.tmp 33))]
 [1,3,6,10,11,12])
 (.seq
 (.seq
 (.region
 [.mk (some 34) none (.mv (.tmp 10)),
 .mk (some 35) none
 (.ibin .neq (.tmp 34) (.const (.int .i64 0)))]
 [1,3,6,10,11,12,35])
 (.cond (.tmp 35)
 (.seq
 (.region
 [.mk (some 36) none
 (.build 106 [.int .i64 0,.int .i64 0,.slice none 0 0] []),
 .mk (some 37) none (.mv (.tmp 10)),
 .mk none none (.store 3 (.tmp 6) (.tmp 36)),
 .mk (some 7) none (.mv (.const (.int .i64 0))),
 .mk (some 8) none (.mv (.tmp 37))]
 [6,7,8])
 .ret)
 .skip))
 (.seq
 (.region
 [.mk (some 39) none (.load true 4 (.tmp 3)),
 .mk (some 40) none (.mv (.tmp 1)),.mk (some 41) none (.mv (.tmp 11)),
 .mk (some 42) none
 (.call (.func 104) [.tmp 39,.tmp 40,.tmp 41]),
 .mk (some 38) none (.mv (.tmp 42)),
 .mk (some 43) none (.extract 0 (.tmp 38)),
 .mk (some 44) none (.extract 1 (.tmp 38)),
 .mk (some 13) none
 (.alloc true 106
 (.agg (Array.mk [.int .i64 0,.int .i64 0,.slice none 0 0]))),
 .mk none none (.store 3 (.tmp 13) (.tmp 43)),
 .mk (some 10) none (.mv (.tmp 44))]
 [6,10,12,13])
 (.seq
 (.region
 [.mk (some 45) none (.load true 3 (.tmp 13)),
 .mk (some 46) none (.mv (.tmp 12)),
 .mk (some 47) none (.mv (.tmp 10)),
 .mk none none (.store 3 (.tmp 6) (.tmp 45)),
 .mk (some 7) none (.mv (.tmp 46)),.mk (some 8) none (.mv (.tmp 47))]
 [6,7,8])
 .ret)))))))
def S101 : FnS := ⟨48,[(6,some (true,3)),(7,none),(8,none)],S101_0⟩
theorem tr101 : trFn Try.prog 101 [3,6,13] [[1,2,3,6],[1,2,3,6,9,10],[1,2,3,6,9,10,21],[6,7,8],[1,2,3,6,9,25],[6,7,8],[1,3,6,10,11,12],[1,3,6,10,11,12,35],[6,7,8],[6,10,12,13],[6,7,8]] = some S101 := by kernel_rfl
end Go.Proofs.Ytniobbepliknmaa.V
namespace Go.Proofs.Ytniobbepliknmaa.V
open Go
set_option linter.unusedVariables false
set_option linter.unusedSimpArgs false
/- draw.Tree walked; no condition. -/
attribute [local go_sem] e_seq e_region e_quiet e_join e_loop e_cond e_block e_exit e_ret e_skip e_fin e_kseq e_snrm e_sret e_sex e_bnrm e_bret e_bex e_rnrm e_rret e_res e_condC e_nil e_g e_mv g_mv e_pick g_pick pickC_eq e_ibin g_ibin ibinC_eq e_sbin g_sbin e_beq g_beq beqC_eq e_nilq g_nilq nilqC_sl nilqC_pt nilqC_mp e_un g_un unC_not unC_neg e_conv g_conv convC_eq e_fld g_fld fldC_ref fldC_ptr e_nilCheck g_nilCheck nilCheckC_ref nilCheckC_ptr nilCheckC_fun e_field g_field fieldC_eq e_len g_len lenC_sl lenC_str e_extract g_extract extractC_eq e_mkFunc e_build g_build e_idiv g_idiv idivC_eq e_ishift g_ishift ishiftC_eq e_idx g_idx e_idxA g_idxA e_load g_load e_loadB g_loadB atB_ref atB_v g_mkFunc loadC_ref loadC_ptr loadB_eq e_slc g_slc e_box boxC_loc boxC_esc e_alloc allocC_loc allocC_esc e_buildS e_store storeC_ref storeC_ptr storeB_eq e_append e_appz e_mk mkC_eq e_call callC_eq e_fn g_fn fnC_eq fnV_min' fnV_max' fnV_rune' e_q g_q e_a e_n g_call g_box g_alloc g_buildS g_store g_append g_mk g_a g_n g_dead e_dead e_callK e_drawn e_tree e_finJ e_tk e_tfin e_tno e_nbt_q e_nbt_qn e_nbt_a e_nbt_an e_nbt_fin e_drawnB e_bxb_nil e_bxb e_stB_none e_stB_some boxSt_store bs_mv bs_pick bs_ibin bs_idiv bs_ishift bs_sbin bs_beq bs_nilq bs_un bs_conv bs_box bs_alloc bs_build bs_buildS bs_load bs_fld bs_nilCheck bs_idx bs_idxA bs_field bs_slc bs_len bs_append bs_appz bs_mk bs_call bs_extract bs_mkFunc bs_fn bs_q bs_a bs_n bs_loadB bs_dead isBox_box e_early_nil e_early_t e_early_f e_nob_nil e_nob_none e_nob_some isBox_dead isBox_v isBox_ref e_dnil e_dk e_ek e_finB vcOps_vc1 e_dcons e_tq e_ekt e_tearly e_talt e_dearly look_nil look_c proj_nil proj_c looks_nil looks_c zip_nil zip_c val_tmp val_const val_func slv_v slv_box slv_ref slot_tmp slot_const slot_func slotL_v slotL_box slotL_ref put_some put_none updBox_c boxSet_box gd_eq slotVals_nil slotVals_c slotVals_b boxV_box boxOn_box slotsOn_nil slotsOn_c slotsOn_b resV_one resV_two vals_nil vals_c allOn_nil allOn_c partOn_nil partOn_c partVals_nil partVals_c fits_nil fits_c fillL_nil fillL_c mkv_one mkv_agg cellsV_agg cellsV_int cellsV_bool cellsV_slice cellsV_string cellsV_pointer cellsV_func cellsV_nilf cellsV_map one'_nil one'_c oc_int oc_bool oc_slice oc_string oc_pointer oc_func oc_nilf oc_map setC_eq iv_add iv_sub iv_mul iv_eql iv_neq iv_lss iv_leq iv_gtr iv_geq iok_add iok_sub iok_mul iok_eql iok_neq iok_lss iok_leq iok_gtr iok_geq pickV_bool args0_nil args0_c bnd_none bnd_some imp_bt imp_bf imp_ebt imp_ebf imp_eb1 imp_np imp_pp beq_tt beq_tf beq_ft beq_ff cond_or cond_and e_round e_meet Int.le_refl Int.toNat_zero decide_true decide_false Bool.or_false Bool.false_or Bool.true_or Bool.or_true Bool.and_false Bool.false_and Bool.bne_false Bool.bne_true beq_iff_eq Int.cast_ofNat_Int not_false_eq_true not_true_eq_false false_and and_false false_implies true_implies true_and and_true Bool.true_and Bool.and_true Bool.not_true Bool.not_false forall_const implies_true List.take_zero List.drop_zero List.take_succ_cons List.drop_succ_cons List.take_nil List.drop_nil List.length_cons List.length_nil List.nil_append List.append_nil List.cons_append Int.toNat_natCast decide_eq_true_eq decide_eq_false_iff_not cond_true cond_false and_self List.getElem?_cons_zero List.getElem?_cons_succ List.set_cons_zero List.set_cons_succ Option.some.injEq exists_eq_left' Nat.zero_add Nat.add_zero Nat.mul_one imp_self true_or or_true or_false false_or Bool.or_eq_true Bool.or_eq_false_iff Bool.and_eq_true Bool.and_eq_false_iff Bool.not_eq_true' Bool.not_eq_false'

theorem coinsG_lt {n b : Nat} {coins : List Bool} : ∀ (f used : Nat) {k u : Nat}, coinsG n b coins f used = some (k, u) → k < n
  | 0, used, k, u, h => by simp [coinsG] at h
  | f + 1, used, k, u, h => by
    rw [coinsG] at h
    split at h
    · split at h
      · rename_i q
        simp only [Option.some.injEq, Prod.mk.injEq] at h
        omega
      · exact coinsG_lt f _ h
    · cases h
theorem coinsF_lt {n : Nat} {coins : List Bool} {k u : Nat} (h : coinsF n coins = some (k, u)) : k < n := coinsG_lt _ _ h
/-- what Tree answers -/
def DTreeR (g : Gr) (n : Int) (coins : List Bool) (v : Value) (Γ : Ctx) : Prop := (opE g n ≠ 0 ∧ Γ = [] ∧ v = .tuple #[.agg #[.int .i64 0, .int .i64 0, .slice none 0 0], .int .i64 0, .int .i64 (opE g n)]) ∨
  (opE g n = 0 ∧ ∃ m : Nat, n = m ∧ m ≤ 24 ∧ Fine g m ∧ ((cntT g (mostN g m) g.st m = 0 ∧ Γ = [] ∧ v = .tuple #[.agg #[.int .i64 0, .int .i64 0, .slice none 0 0], .int .i64 0, .int .i64 10]) ∨
    (0 < cntT g (mostN g m) g.st m ∧ ((coinsF (cntT g (mostN g m) g.st m) coins = none ∧ Γ = [] ∧ v = .tuple #[.agg #[.int .i64 0, .int .i64 0, .slice none 0 0], .int .i64 0, .int .i64 5]) ∨
      (∃ (k u : Nat) (x : Tr) (gk : PH) (A : Option Addr) (c : Nat), coinsF (cntT g (mostN g m) g.st m) coins = some (k, u) ∧ (lstT g (mostN g m) g.st m)[k]? = some x ∧ Γ = [gk] ∧ v = .tuple #[.agg #[.int .i64 x.rule, .int .i64 x.term, .slice A x.kids.length c], .int .i64 (u : Int), .int .i64 0] ∧ SlOk (lk [gk]) A c x.kids)))))
theorem draw_tree {Γr : Ctx} {g : Gr} {R : Option Addr} {cR : Nat} (hx : SlOk (lk Γr) R cR g.rs) {n : Int} (hn : -9223372036854775808 ≤ n ∧ n ≤ 9223372036854775807) {A : Option Addr} {c : Nat} {coins : List Bool} (hc : SlOk (lk Γr) A c coins) :
    Ret Try.prog 101 [.agg #[.int .i64 g.ts, .int .i64 g.ns, .int .i64 g.st, .slice R g.rs.length cR], .int .i64 n, .slice A coins.length c] Γr [] (DTreeR g n coins) := by
  generalize hR : DTreeR g n coins = R'
  refine ret_of_vc tr101 (Nat.le_of_ble_eq_true rfl) ?_
  simp -implicitDefEqProofs only [S101, S101_0, go_sem, Nat.reduceBEq, Nat.reduceAdd, Nat.reduceSub, Nat.reduceMul, Nat.reduceLeDiff, reduceCtorEq, ↓reduceIte, Int.reduceLT, Int.reduceLE, Int.reduceEq, Int.reduceNe]
  intro bg bt
  refine CallVC.read (Γ := []) (rank_count (Γr := [] ++ Γr) hx hn) ?_
  rintro v Γ' ⟨rfl, ⟨hne, rfl⟩ | ⟨h0, m, rfl, hm, F, rfl⟩⟩
  · simp -implicitDefEqProofs only [go_sem, Nat.reduceBEq, Nat.reduceAdd, Nat.reduceSub, Nat.reduceMul, Nat.reduceLeDiff, reduceCtorEq, ↓reduceIte, Int.reduceLT, Int.reduceLE, Int.reduceEq, Int.reduceNe]
    refine ⟨fun _ => Up.here ?_, fun h => absurd h hne⟩
    subst hR
    exact .inl ⟨hne, rfl, rfl⟩
  · have hfew := F.few
    simp -implicitDefEqProofs only [go_sem, Nat.reduceBEq, Nat.reduceAdd, Nat.reduceSub, Nat.reduceMul, Nat.reduceLeDiff, reduceCtorEq, ↓reduceIte, Int.reduceLT, Int.reduceLE, Int.reduceEq, Int.reduceNe]
    refine ⟨fun hz => Up.here ?_, fun hp => ?_⟩
    · subst hR
      exact .inr ⟨h0, m, rfl, hm, F, .inl ⟨by omega, rfl, rfl⟩⟩
    · refine CallVC.read (Γ := []) (draw_number _ A c coins hc) ?_
      rintro v Γ' ⟨rfl, rfl⟩
      rw [if_neg (by omega), Int.toNat_natCast]
      cases hcf : coinsF (cntT g (mostN g m) g.st m) coins with
      | none =>
        simp -implicitDefEqProofs only [go_sem, Nat.reduceBEq, Nat.reduceAdd, Nat.reduceSub, Nat.reduceMul, Nat.reduceLeDiff, reduceCtorEq, ↓reduceIte, Int.reduceLT, Int.reduceLE, Int.reduceEq, Int.reduceNe]
        refine Up.here ?_
        subst hR
        exact .inr ⟨h0, m, rfl, hm, F, .inr ⟨by omega, .inl ⟨hcf, rfl, rfl⟩⟩⟩
      | some ku =>
        obtain ⟨k, u⟩ := ku
        have hk := coinsF_lt hcf
        simp -implicitDefEqProofs only [go_sem, Nat.reduceBEq, Nat.reduceAdd, Nat.reduceSub, Nat.reduceMul, Nat.reduceLeDiff, reduceCtorEq, ↓reduceIte, Int.reduceLT, Int.reduceLE, Int.reduceEq, Int.reduceNe]
        refine CallVC.read (Γ := []) (rank_tree (Γr := [] ++ Γr) hx (i := (k : Int)) hn) ?_
        rintro v Γ' (⟨hne, _⟩ | ⟨_, m', hmm, _, _, ⟨hbad, _⟩ | ⟨k', x, gk, A', c', hkk, hxk, rfl, rfl, hS⟩⟩)
        · exact absurd h0 hne
        · obtain rfl : m' = m := by omega
          exact absurd hbad (by omega)
        · obtain rfl : m' = m := by omega
          obtain rfl : k' = k := by omega
          simp -implicitDefEqProofs only [go_sem, Nat.reduceBEq, Nat.reduceAdd, Nat.reduceSub, Nat.reduceMul, Nat.reduceLeDiff, reduceCtorEq, ↓reduceIte, Int.reduceLT, Int.reduceLE, Int.reduceEq, Int.reduceNe]
          refine Up.here ?_
          subst hR
          exact .inr ⟨h0, m', rfl, hm, F, .inr ⟨by omega, .inr ⟨k', u, x, gk, A', c', hcf, hxk, rfl, rfl, hS⟩⟩⟩
/- Numbers of trees, symbols from the left: the plain law of the reference's rows; no condition. -/
/-- one symbol more behind -/
def convT (T : Int → Nat → Nat) (acc : Nat → Nat) (s : Sy) (k : Nat) : Nat := sumN (fun x => acc x * symT T s (k - x)) (k + 1)
def preT (T : Int → Nat → Nat) : (Nat → Nat) → List Sy → Nat → Nat
  | acc, [] => acc
  | acc, s :: l => preT T (convT T acc s) l
theorem preT_row (T : Int → Nat → Nat) : ∀ (l : List Sy) (acc : Nat → Nat) (k : Nat), preT T acc l k = sumN (fun x => acc x * rowT T l (k - x)) (k + 1)
  | [], acc, k => by
    show acc k = sumN (fun x => acc x * (if k - x = 0 then 1 else 0)) (k + 1)
    rw [sumN, Nat.sub_self, if_pos rfl, Nat.mul_one, sumN_congr (g := fun _ => 0) (fun x hx => by rw [if_neg (by omega), Nat.mul_zero]), sumN_zero, Nat.zero_add]
  | s :: l, acc, k => by
    rw [preT, preT_row T l (convT T acc s) k]
    have h1 : sumN (fun x => convT T acc s x * rowT T l (k - x)) (k + 1) = sumN (fun x => sumN (fun y => acc y * (symT T s (x - y) * rowT T l (k - y - (x - y)))) (x + 1)) (k + 1) := by
      refine sumN_congr fun x hx => ?_
      unfold convT
      rw [← sumN_mul]
      refine sumN_congr fun y hy => ?_
      rw [show k - y - (x - y) = k - x by omega, Nat.mul_assoc]
    have h2 := sumN_tri (fun y z => acc y * (symT T s z * rowT T l (k - y - z))) k
    rw [h1, h2]
    refine sumN_congr fun y hy => ?_
    rw [show rowT T (s :: l) (k - y) = sumN (fun j => symT T s j * rowT T l (k - y - j)) (k - y + 1) from rfl, ← sumN_mulL]
/-- one tree of no symbols -/
def oneT (k : Nat) : Nat := if k = 0 then 1 else 0
theorem preT_one (T : Int → Nat → Nat) (l : List Sy) (k : Nat) : preT T oneT l k = rowT T l k := by
  rw [preT_row, sumN_front, sumN_congr (g := fun _ => 0) (fun x _ => by simp [oneT]), sumN_zero]
  simp [oneT]
/- Which symbols have trees, by the lengths of words; lists of trees rule by rule: the plain law; no condition. -/
theorem cnt_has {g : Gr} : ∀ (h : Nat) {a : Int} {k : Nat}, 0 < cntT g h a k → HasD g a k
  | 0, a, k, hp => by simp [cntT] at hp
  | h + 1, a, k, hp => by
    obtain ⟨r, h1, h2, h3⟩ := sumR_pos.1 hp
    have row : ∀ (l : List Sy) (k : Nat), 0 < rowT (cntT g h) l k → LenD g l k := by
      intro l
      induction l with
      | nil =>
        intro k hk
        have : k = 0 := by
          simp only [rowT] at hk
          split at hk
          · assumption
          · omega
        rw [this]
        exact .nil
      | cons s l ih =>
        intro k hk
        obtain ⟨j, q1, q2, q3⟩ := row_pos.1 hk
        obtain ⟨st, sn⟩ := s
        cases st with
        | true =>
          have : j = 1 := by
            unfold symT at q2
            simp only [if_true] at q2
            split at q2
            · assumption
            · omega
          subst this
          have := LenD.term (n := sn) (ih _ q3)
          rwa [show 1 + (k - 1) = k by omega] at this
        | false =>
          obtain ⟨r', w1, w2, w3⟩ := cnt_has h (show 0 < cntT g h sn j from q2)
          have := LenD.non w1 w2 w3 (ih _ q3)
          rwa [show j + (k - j) = k by omega] at this
    exact ⟨r, h1, h2, row _ _ h3⟩
theorem len_cnt {g : Gr} {l : List Sy} {k : Nat} (h : LenD g l k) : ∃ x, 0 < rowT (cntT g x) l k := by
  induction h with
  | nil => exact ⟨0, by simp [rowT]⟩
  | @term n l k _ ih =>
    obtain ⟨x, hx⟩ := ih
    refine ⟨x, row_pos.2 ⟨1, by omega, by simp [symT], ?_⟩⟩
    rw [show 1 + k - 1 = k by omega]
    exact hx
  | @non a l r j k hr hl _ _ ih1 ih2 =>
    obtain ⟨x, hx⟩ := ih1
    obtain ⟨y, hy⟩ := ih2
    have h1 := rowT_le (cntT_le g (show x ≤ max x y by omega)) r.r j
    have h2 := rowT_le (cntT_le g (show y ≤ max x y + 1 by omega)) l k
    refine ⟨max x y + 1, row_pos.2 ⟨j, by omega, ?_, ?_⟩⟩
    · show 0 < cntT g (max x y + 1) a j
      exact sumR_pos.2 ⟨r, hr, hl, by omega⟩
    · rw [show j + k - j = k by omega]
      omega
theorem has_cnt {g : Gr} (V : VG g) {n : Nat} {a : Int} {k : Nat} (hk : k ≤ n) : HasD g a k ↔ 0 < cntT g (mostN g n) a k := by
  refine ⟨fun ⟨r, h1, h2, h3⟩ => ?_, cnt_has _⟩
  obtain ⟨x, hx⟩ := len_cnt h3
  exact cnt_pos V (x + 1) hk (sumR_pos.2 ⟨r, h1, h2, hx⟩)
/-- no trees at most levels, none at any -/
theorem sym_none {g : Gr} (V : VG g) {n : Nat} {s : Sy} {k : Nat} (hk : k ≤ n) (h : ¬ 0 < symT (cntT g (mostN g n)) s k) (x : Nat) : symL (lstT g x) s k = [] := by
  apply List.eq_nil_of_length_eq_zero
  rw [symL_len (lstT_len g x)]
  unfold symT at h ⊢
  split
  · rename_i e
    rw [if_pos e] at h
    omega
  · rename_i e
    rw [if_neg e] at h
    rcases Nat.eq_zero_or_pos (cntT g x s.n k) with q | q
    · exact q
    · exact absurd (cnt_pos V x hk q) h
theorem row_none {g : Gr} (V : VG g) {n : Nat} {l : List Sy} {k : Nat} (hk : k ≤ n) (h : ¬ 0 < rowT (cntT g (mostN g n)) l k) (x : Nat) : rowL (lstT g x) l k = [] := by
  apply List.eq_nil_of_length_eq_zero
  rw [rowL_len (lstT_len g x)]
  rcases Nat.eq_zero_or_pos (rowT (cntT g x) l k) with q | q
  · exact q
  · exact absurd (row_up (fun a k hk hp => cnt_pos V _ hk hp) l k hk q) h
theorem rulL_append (L : Int → Nat → List Tr) (a : Int) (k : Nat) : ∀ (xs ys : List Ru) (i : Nat), rulL L a k i (xs ++ ys) = rulL L a k i xs ++ rulL L a k (i + xs.length) ys
  | [], ys, i => by simp [rulL]
  | x :: xs, ys, i => by
    rw [List.cons_append, rulL, rulL, rulL_append L a k xs ys (i + 1), List.append_assoc, show i + 1 + xs.length = i + (x :: xs).length by simp; omega]
/-- the trees of so many rules -/
def rulsT (g : Gr) (L : Int → Nat → List Tr) (a : Int) (k i : Nat) : List Tr := rulL L a k 0 (g.rs.take i)
theorem rulsT_succ {g : Gr} (L : Int → Nat → List Tr) (a : Int) (k : Nat) {i : Nat} (hi : i < g.rs.length) : rulsT g L a k (i + 1) = rulsT g L a k i ++ (if g.rs[i].l = a then (rowL L g.rs[i].r k).map (fun ks => (⟨(i : Int), 0, ks⟩ : Tr)) else []) := by
  unfold rulsT
  rw [List.take_succ_eq_append_getElem hi, rulL_append]
  simp only [rulL, List.append_nil]
  have : (g.rs.take i).length = i := by simp; omega
  rw [this, Nat.zero_add]
theorem rulsT_all (g : Gr) (h : Nat) (a : Int) (k : Nat) : rulsT g (lstT g h) a k g.rs.length = lstT g (h + 1) a k := by
  unfold rulsT
  rw [List.take_length]
  rfl
/-- lists of trees whose first has fewer than j terminals -/
def rowsT (L : Int → Nat → List Tr) (s : Sy) (l : List Sy) (k j : Nat) : List (List Tr) := (List.range j).flatMap fun j => (symL L s j).flatMap fun x => (rowL L l (k - j)).map (x :: ·)
theorem rowsT_succ (L : Int → Nat → List Tr) (s : Sy) (l : List Sy) (k j : Nat) : rowsT L s l k (j + 1) = rowsT L s l k j ++ (symL L s j).flatMap fun x => (rowL L l (k - j)).map (x :: ·) := by
  unfold rowsT
  rw [List.range_succ, List.flatMap_append]
  simp
theorem rowsT_all (L : Int → Nat → List Tr) (s : Sy) (l : List Sy) (k : Nat) : rowsT L s l k (k + 1) = rowL L (s :: l) k := rfl
end Go.Proofs.Ytniobbepliknmaa.V
/- The text of (*parlance/parlref5.lister).fits as a statement (slots: 0 l, 1 syms, 2 n, 3 l, 4 syms, 5 n, 7 at, 8 _, 9 s, 10 next, 11 x, 12 ok, 13 y); no condition. -/
namespace Go.Proofs.Ytniobbepliknmaa.V
open Go
def S199_1 : Stmt :=
 .seq
 (.seq
 (.region
 [.mk (some 35) none (.mv (.tmp 12)),.mk (some 36) none (.mv (.tmp 35)),
 .mk (some 37) (some (36,true)) (.mv (.tmp 11)),
 .mk (some 38) (some (36,true)) (.mv (.tmp 13)),
 .mk (some 39) (some (36,true)) (.ibin .add (.tmp 37) (.tmp 38)),
 .mk (some 40) (some (36,true)) (.mv (.tmp 2)),
 .mk (some 41) (some (36,true)) (.ibin .leq (.tmp 39) (.tmp 40)),
 .mk (some 42) none (.pick (.tmp 36) (.tmp 41) (.const (.bool false)))]
 [0,2,9,10,11,12,13,19,20,21,28,29,30,42])
 (.cond (.tmp 42) .skip (.exit 4)))
 (.seq
 (.block 5
 (.drawn
 [(false,.mk (some 45) none (.mv (.tmp 10))),
 (false,.mk (some 46) none (.mv (.tmp 11))),
 (false,.mk (some 47) none (.mv (.tmp 13))),
 (false,.mk (some 48) none (.ibin .add (.tmp 46) (.tmp 47))),
 (false,.mk (some 49) none (.mv (.tmp 10))),
 (false,.mk (some 50) none (.mv (.tmp 11))),
 (false,.mk (some 51) none (.mv (.tmp 13))),
 (false,.mk (some 52) none (.ibin .add (.tmp 50) (.tmp 51))),
 (false,.mk (some 53) none (.idx 1 (.tmp 49) (.tmp 52))),
 (false,.mk (some 54) none (.load false 1 (.tmp 53))),
 (false,.mk (some 55) none (.mv (.tmp 54))),
 (false,.mk (some 56) (some (55,false)) (.fld 0 (.tmp 9))),
 (false,.mk (some 57) (some (55,false)) (.load false 1 (.tmp 56))),
 (false,.mk (some 58) (some (55,false)) (.mv (.tmp 57))),
 (false,.mk (some 59) (some (58,true)) (.mv (.tmp 13))),
 (false,
 .mk (some 60) (some (58,true))
 (.ibin .eql (.tmp 59) (.const (.int .i64 1)))),
 (false,
 .mk (some 61) (some (55,false))
 (.pick (.tmp 58) (.tmp 60) (.const (.bool false)))),
 (false,
 .mk (some 62) none (.pick (.tmp 55) (.const (.bool true)) (.tmp 61))),
 (false,.mk (some 63) none (.mv (.tmp 62))),
 (false,.mk (some 64) (some (63,false)) (.fld 0 (.tmp 9))),
 (false,.mk (some 65) (some (63,false)) (.load false 1 (.tmp 64))),
 (false,.mk (some 66) (some (63,false)) (.un .not (.tmp 65))),
 (false,.mk (some 67) (some (63,false)) (.mv (.tmp 66))),
 (false,.mk (some 68) (some (67,true)) (.mv (.tmp 0))),
 (false,.mk (some 69) (some (67,true)) (.nilCheck (.tmp 68))),
 (false,.mk (some 70) (some (67,true)) (.fld 4 (.tmp 69))),
 (false,.mk (some 71) (some (67,true)) (.load false 1 (.tmp 70))),
 (false,.mk (some 72) (some (67,true)) (.fld 1 (.tmp 9))),
 (false,.mk (some 73) (some (67,true)) (.load false 1 (.tmp 72))),
 (false,.mk (some 74) (some (67,true)) (.idx 1 (.tmp 71) (.tmp 73))),
 (false,.mk (some 75) (some (67,true)) (.load false 1 (.tmp 74))),
 (false,.mk (some 76) (some (67,true)) (.mv (.tmp 13))),
 (false,.mk (some 77) (some (67,true)) (.idx 1 (.tmp 75) (.tmp 76))),
 (false,.mk (some 78) (some (67,true)) (.load false 1 (.tmp 77))),
 (false,
 .mk (some 79) (some (63,false))
 (.pick (.tmp 67) (.tmp 78) (.const (.bool false)))),
 (false,
 .mk (some 80) none (.pick (.tmp 63) (.const (.bool true)) (.tmp 79))),
 (false,.mk (some 81) none (.idx 1 (.tmp 45) (.tmp 48))),
 (false,.mk none none (.store 1 (.tmp 81) (.tmp 80)))]
 [0,2,9,10,11,12,13,19,20,21,28,29,30]))
 (.region
 [.mk (some 43) none (.mv (.tmp 13)),
 .mk (some 44) none (.ibin .add (.tmp 43) (.const (.int .i64 1))),
 .mk (some 13) none (.mv (.tmp 44))]
 [0,2,9,10,11,12,13,19,20,21,28,29,30]))
def S199_2 : Stmt :=
 .seq
 (.region [.mk (some 31) none (.ibin .lss (.tmp 30) (.tmp 29))]
 [0,2,9,10,19,20,21,28,29,30,31])
 (.seq (.cond (.tmp 31) .skip (.exit 2))
 (.seq
 (.block 3
 (.seq
 (.region
 [.mk (some 32) none (.mv (.tmp 30)),
 .mk (some 33) none (.idx 1 (.tmp 28) (.tmp 30)),
 .mk (some 34) none (.load false 1 (.tmp 33)),
 .mk (some 11) none (.mv (.tmp 32)),.mk (some 12) none (.mv (.tmp 34))]
 [0,2,9,10,11,12,19,20,21,28,29,30])
 (.seq
 (.region [.mk (some 13) none (.mv (.const (.int .i64 0)))]
 [0,2,9,10,11,12,13,19,20,21,28,29,30])
 (.block 4 (.loop S199_1 [13] [0,2,9,10,11,12,19,20,21,28,29,30])))))
 (.region
 [.mk (some 82) none (.ibin .add (.tmp 30) (.const (.int .i64 1))),
 .mk (some 30) none (.mv (.tmp 82))]
 [0,2,9,10,19,20,21,28,29,30])))
def S199_3 : Stmt :=
 .seq
 (.region [.mk (some 22) none (.ibin .lss (.tmp 21) (.tmp 20))]
 [0,2,7,19,20,21,22])
 (.seq (.cond (.tmp 22) .skip (.exit 0))
 (.seq
 (.block 1
 (.seq
 (.region
 [.mk (some 23) none (.idx 2 (.tmp 19) (.tmp 21)),
 .mk (some 24) none (.load true 2 (.tmp 23)),
 .mk (some 9) none
 (.alloc true 39 (.agg (Array.mk [.bool false,.int .i64 0]))),
 .mk none none (.store 2 (.tmp 9) (.tmp 24))]
 [0,2,7,9,19,20,21])
 (.seq
 (.region
 [.mk (some 25) none (.mv (.tmp 2)),
 .mk (some 26) none (.ibin .add (.tmp 25) (.const (.int .i64 1))),
 .mk (some 27) none (.mk 4 1 1 (.bool false) (.tmp 26) (.tmp 26)),
 .mk (some 10) none (.mv (.tmp 27))]
 [0,2,7,9,10,19,20,21])
 (.seq
 (.seq
 (.region
 [.mk (some 28) none (.mv (.tmp 7)),
 .mk (some 29) none (.len false (.tmp 28)),
 .mk (some 30) none (.mv (.const (.int .i64 0)))]
 [0,2,9,10,19,20,21,28,29,30])
 (.block 2 (.loop S199_2 [30] [0,2,9,10,19,20,21,28,29])))
 (.region
 [.mk (some 83) none (.mv (.tmp 10)),.mk (some 7) none (.mv (.tmp 83))]
 [0,2,7,19,20,21])))))
 (.region
 [.mk (some 84) none (.ibin .add (.tmp 21) (.const (.int .i64 1))),
 .mk (some 21) none (.mv (.tmp 84))]
 [0,2,7,19,20,21])))
def S199_0 : Stmt :=
 .seq (.region [.mk (some 6) none (.mv (.const (.bool false)))] [0,1,2])
 (.seq
 (.region
 [.mk (some 14) none (.mv (.tmp 2)),
 .mk (some 15) none (.ibin .add (.tmp 14) (.const (.int .i64 1))),
 .mk (some 16) none (.mk 4 1 1 (.bool false) (.tmp 15) (.tmp 15)),
 .mk (some 7) none (.mv (.tmp 16))]
 [0,1,2,7])
 (.seq
 (.region
 [.mk (some 17) none (.mv (.tmp 7)),
 .mk (some 18) none (.idx 1 (.tmp 17) (.const (.int .i64 0))),
 .mk none none (.store 1 (.tmp 18) (.const (.bool true)))]
 [0,1,2,7])
 (.seq
 (.seq
 (.region
 [.mk (some 19) none (.mv (.tmp 1)),.mk (some 20) none (.len false (.tmp 19)),
 .mk (some 21) none (.mv (.const (.int .i64 0)))]
 [0,2,7,19,20,21])
 (.block 0 (.loop S199_3 [7,21] [0,2,19,20])))
 (.seq
 (.region
 [.mk (some 85) none (.mv (.tmp 7)),.mk (some 86) none (.mv (.tmp 2)),
 .mk (some 87) none (.idx 1 (.tmp 85) (.tmp 86)),
 .mk (some 88) none (.load false 1 (.tmp 87)),
 .mk (some 6) none (.mv (.tmp 88))]
 [6])
 .ret))))
def S199 : FnS := ⟨89,[(6,none)],S199_0⟩
theorem tr199 : trFn Try.prog 199 [9] [[0,1,2],[0,1,2,7],[0,1,2,7],[0,2,7,19,20,21],[7,21],[0,2,19,20],[0,2,7,19,20,21,22],[0,2,7,9,19,20,21],[0,2,7,9,10,19,20,21],[0,2,9,10,19,20,21,28,29,30],[30],[0,2,9,10,19,20,21,28,29],[0,2,9,10,19,20,21,28,29,30,31],[0,2,9,10,11,12,19,20,21,28,29,30],[0,2,9,10,11,12,13,19,20,21,28,29,30],[13],[0,2,9,10,11,12,19,20,21,28,29,30],[0,2,9,10,11,12,13,19,20,21,28,29,30,42],[0,2,9,10,11,12,13,19,20,21,28,29,30],[0,1,2,3,4,5,6,7,8,9,10,11,12,13,14,15,16,17,18,19,20,21,22,23,24,25,26,27,28,29,30,31,32,33,34,35,36,37],[],[],[],[],[1,2],[],[],[],[5,6],[4,5,6,7],[4,5,6,7,8],[4,5,6,7,8,9],[4,5,6,7,8,9,10],[4,5,6,7,8,9,10,11],[4,5,6,7,8,9,10,11,12],[4,5,6,7,8,9,10,11,12,13],[4,5,6,7,8,9,10,11,12,13,14],[4,5,6,7,8,9,10,11,12,13,14,15],[4,5,6,7,8,9,10,11,12,13,14,15,16],[4,5,6,7,8,9,10,11,12,13,14,15,16,17],[4,5,6,7,8,9,10,11,12,13,14,15,16,17,18],[4,5,6,7,8,9,10,11,12,13,14,15,16,17,18,19],[4,5,6,7,8,9,10,11,12,13,14,15,16,17,18,19,20],[4,5,6,7,8,9,10,11,12,13,14,15,16,17,18,19,20,21],[4,5,6,7,8,9,10,11,12,13,14,15,16,17,18,19,20,21,22],[4,5,6,7,8,9,10,11,12,13,14,15,16,17,18,19,20,21,22,23],[4,5,6,7,8,9,10,11,12,13,14,15,16,17,18,19,20,21,22,23,24],[4,5,6,7,8,9,10,11,12,13,14,15,16,17,18,19,20,21,22,23,24,25],[4,5,6,7,8,9,10,11,12,13,14,15,16,17,18,19,20,21,22],[4,5,6,7,8,9,10,11,12,13,14,15,16,17,18,19,20,21,22,27],[4,5,6,7,8,9,10,11,12,13,14,15,16,17,18,19,20,21,22,23,24,25,26,27,28],[4,5,6,7,8,9,10,11,12,13,14,15,16,17,18,19,20,21,22,23,24,25,26,27,28,29],[4,5,6,7,8,9,10,11,12,13,14,15,16,17,18,19,20,21,22],[4,5,6,7,8,9,10,11,12,13,14,15,16,17,18,19,20,21,22,23,24,25,26,27,28,29,30,31],[4,5,6,7,8,9,10,11,12,13,14,15,16,17,18,19,20,21,22,23,24,25,26,27,28,29,30,31,32],[4,5,6,7,8,9,10,11,12,13,14,15,16,17,18,19,20,21,22,23,24,25,26,27,28,29,30,31,32,33],[4,5,6,7,8,9,10,11,12,13,14,15,16,17,18,19,20,21,22,23,24,25,26,27,28,29,30,31,32,33,34],[0,1,2,3,4,5,6,7,8,9,10,11,12,13,14,15,16,17,18,19,20,21,22,23,24,25,26,27,28,29,30,31,32,33,34,35],[0,1,2,3,4,5,6,7,8,9,10,11,12,13,14,15,16,17,18,19,20,21,22,23,24,25,26,27,28,29,30,31,32,33,34,35,36],[0,2,9,10,11,12,13,19,20,21,28,29,30],[0,2,9,10,19,20,21,28,29,30],[0,2,7,19,20,21],[0,2,7,19,20,21],[6]] = some S199 := by kernel_rfl
end Go.Proofs.Ytniobbepliknmaa.V
