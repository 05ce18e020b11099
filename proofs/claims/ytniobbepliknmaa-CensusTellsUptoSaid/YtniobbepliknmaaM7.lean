/- Texts put together, in the order in which they build; each says what it proves; no condition. -/
import Derived.Test.YtniobbepliknmaaM6
import Derived.Test.YtniobbepliknmaaM2
import Derived.Test.YtniobbepliknmaaProg
import Derived.Test.YtniobbepliknmaaM4
/- census.shortest walked; no condition. -/
namespace Go.Proofs.Ytniobbepliknmaa.V
open Go
set_option linter.unusedVariables false
set_option linter.unusedSimpArgs false
attribute [local go_sem] e_seq e_region e_quiet e_join e_loop e_cond e_block e_exit e_ret e_skip e_fin e_kseq e_snrm e_sret e_sex e_bnrm e_bret e_bex e_rnrm e_rret e_res e_condC e_nil e_g e_mv g_mv e_pick g_pick pickC_eq e_ibin g_ibin ibinC_eq e_sbin g_sbin e_beq g_beq beqC_eq e_nilq g_nilq nilqC_sl nilqC_pt nilqC_mp e_un g_un unC_not unC_neg e_conv g_conv convC_eq e_fld g_fld fldC_ref fldC_ptr e_nilCheck g_nilCheck nilCheckC_ref nilCheckC_ptr nilCheckC_fun e_field g_field fieldC_eq e_len g_len lenC_sl lenC_str e_extract g_extract extractC_eq e_mkFunc e_build g_build e_idiv g_idiv idivC_eq e_ishift g_ishift ishiftC_eq e_idx g_idx e_idxA g_idxA e_load g_load e_loadB g_loadB atB_ref atB_v g_mkFunc loadC_ref loadC_ptr loadB_eq e_slc g_slc e_box boxC_loc boxC_esc e_alloc allocC_loc allocC_esc e_buildS e_store storeC_ref storeC_ptr storeB_eq e_append e_appz e_mk mkC_eq e_call callC_eq e_fn g_fn fnC_eq fnV_min' fnV_max' fnV_rune' e_q g_q e_a e_n g_call g_box g_alloc g_buildS g_store g_append g_mk g_a g_n g_dead e_dead e_callK e_drawn e_tree e_finJ e_tk e_tfin e_tno e_nbt_q e_nbt_qn e_nbt_a e_nbt_an e_nbt_fin e_drawnB e_bxb_nil e_bxb e_stB_none e_stB_some boxSt_store bs_mv bs_pick bs_ibin bs_idiv bs_ishift bs_sbin bs_beq bs_nilq bs_un bs_conv bs_box bs_alloc bs_build bs_buildS bs_load bs_fld bs_nilCheck bs_idx bs_idxA bs_field bs_slc bs_len bs_append bs_appz bs_mk bs_call bs_extract bs_mkFunc bs_fn bs_q bs_a bs_n bs_loadB bs_dead isBox_box e_early_nil e_early_t e_early_f e_nob_nil e_nob_none e_nob_some isBox_dead isBox_v isBox_ref e_dnil e_dk e_ek e_finB vcOps_vc1 e_dcons e_tq e_ekt e_tearly e_talt e_dearly look_nil look_c proj_nil proj_c looks_nil looks_c zip_nil zip_c val_tmp val_const val_func slv_v slv_box slv_ref slot_tmp slot_const slot_func slotL_v slotL_box slotL_ref put_some put_none updBox_c boxSet_box gd_eq slotVals_nil slotVals_c slotVals_b boxV_box boxOn_box slotsOn_nil slotsOn_c slotsOn_b resV_one resV_two vals_nil vals_c allOn_nil allOn_c partOn_nil partOn_c partVals_nil partVals_c fits_nil fits_c fillL_nil fillL_c mkv_one mkv_agg cellsV_agg cellsV_int cellsV_bool cellsV_slice cellsV_string cellsV_pointer cellsV_func cellsV_nilf cellsV_map one'_nil one'_c oc_int oc_bool oc_slice oc_string oc_pointer oc_func oc_nilf oc_map setC_eq iv_add iv_sub iv_mul iv_eql iv_neq iv_lss iv_leq iv_gtr iv_geq iok_add iok_sub iok_mul iok_eql iok_neq iok_lss iok_leq iok_gtr iok_geq pickV_bool args0_nil args0_c bnd_none bnd_some imp_bt imp_bf imp_ebt imp_ebf imp_eb1 imp_np imp_pp beq_tt beq_tf beq_ft beq_ff cond_or cond_and e_round e_meet Int.le_refl Int.toNat_zero decide_true decide_false Bool.or_false Bool.false_or Bool.true_or Bool.or_true Bool.and_false Bool.false_and Bool.bne_false Bool.bne_true beq_iff_eq Int.cast_ofNat_Int not_false_eq_true not_true_eq_false false_and and_false false_implies true_implies true_and and_true Bool.true_and Bool.and_true Bool.not_true Bool.not_false forall_const implies_true List.take_zero List.drop_zero List.take_succ_cons List.drop_succ_cons List.take_nil List.drop_nil List.length_cons List.length_nil List.nil_append List.append_nil List.cons_append Int.toNat_natCast decide_eq_true_eq decide_eq_false_iff_not cond_true cond_false and_self List.getElem?_cons_zero List.getElem?_cons_succ List.set_cons_zero List.set_cons_succ Option.some.injEq exists_eq_left' Nat.zero_add Nat.add_zero Nat.mul_one imp_self true_or or_true or_false false_or Bool.or_eq_true Bool.or_eq_false_iff Bool.and_eq_true Bool.and_eq_false_iff Bool.not_eq_true' Bool.not_eq_false'

theorem census_shortest {Γr : Ctx} {r : Ru} {A : Option Addr} {c : Nat} (hr : SlOk (lk Γr) A c r.r) {o : List Int} {B : Option Addr} {d : Nat} (ho : SlOk (lk Γr) B d o) (hs : ∀ s ∈ r.r, s.t = false → 0 ≤ s.n ∧ s.n < o.length) (h4 : r.r.length ≤ 4) (hb : ∀ x ∈ o, -1 ≤ x ∧ x ≤ 10000000) :
    Ret Try.prog 154 [.agg #[.int .i64 r.l, .slice A r.r.length c], .slice B o.length d] Γr [] (fun v Γ => Γ = [] ∧ v = .int .i64 (shortF o 0 r.r)) := by
  generalize hR : (fun (v : Value) (Γ : Ctx) => Γ = [] ∧ v = _) = R'
  refine ret_of_vc tr154 (Nat.le_of_ble_eq_true rfl) ?_
  simp -implicitDefEqProofs only [S154, S154_0, go_sem, Nat.reduceBEq, Nat.reduceAdd, Nat.reduceSub, Nat.reduceMul, Nat.reduceLeDiff, reduceCtorEq, ↓reduceIte, Int.reduceLT, Int.reduceLE, Int.reduceEq, Int.reduceNe]
  refine s_loop (fun f vs Γ => ∃ (i : Nat) (x : Int), vs = [.v true (.int .i64 x), .v true (.int .i64 (i : Int))] ∧ Γ = [] ∧ i + f = r.r.length ∧ 0 ≤ x ∧ x ≤ i * 10000000 ∧ shortF o 0 r.r = shortF o x (r.r.drop i)) r.r.length
    (Up.here ⟨0, 0, rfl, rfl, by omega, by omega, by omega, rfl⟩) ?_
  rintro f vs Γ ⟨i, x, rfl, rfl, hif, hx0, hx1, hsf⟩
  simp -implicitDefEqProofs only [S154_3, go_sem, Nat.reduceBEq, Nat.reduceAdd, Nat.reduceSub, Nat.reduceMul, Nat.reduceLeDiff, reduceCtorEq, ↓reduceIte, Int.reduceLT, Int.reduceLE, Int.reduceEq, Int.reduceNe]
  refine ⟨fun hlt => ?_, fun hge => ?_⟩
  · have hi : i < r.r.length := by omega
    have hsi := hs _ (List.getElem_mem hi)
    have hd : r.r.drop i = r.r[i] :: r.r.drop (i + 1) := List.drop_eq_getElem_cons hi
    obtain ⟨b3, o3, h3, hc3⟩ := hr.sy hi
    rw [hd] at hsf
    generalize r.r[i] = s at *
    obtain ⟨st, sn⟩ := s
    refine s_split ?_
    simp -implicitDefEqProofs only [S154_1, go_sem, Nat.reduceBEq, Nat.reduceAdd, Nat.reduceSub, Nat.reduceMul, Nat.reduceLeDiff, reduceCtorEq, ↓reduceIte, Int.reduceLT, Int.reduceLE, Int.reduceEq, Int.reduceNe]
    refine s_idx h3 (by omega) (by omega) ?_
    simp -implicitDefEqProofs only [go_sem, Nat.reduceBEq, Nat.reduceAdd, Nat.reduceSub, Nat.reduceMul, Nat.reduceLeDiff, reduceCtorEq, ↓reduceIte, Int.reduceLT, Int.reduceLE, Int.reduceEq, Int.reduceNe]
    refine s_ld0 (by simpa using hc3 _ (lk_r [] _)) (by simp) (by simp) ?_
    cases st with
    | true =>
      simp only [shortF, if_true] at hsf
      simp -implicitDefEqProofs only [S154_2, go_sem, Nat.reduceBEq, Nat.reduceAdd, Nat.reduceSub, Nat.reduceMul, Nat.reduceLeDiff, reduceCtorEq, ↓reduceIte, Int.reduceLT, Int.reduceLE, Int.reduceEq, Int.reduceNe]
      simp (disch := omega) only [wrap_id]
      exact Up.here ⟨f - 1, by omega, Up.here ⟨i + 1, x + 1, rfl, rfl, by omega, by omega, by omega, hsf⟩⟩
    | false =>
      have hsi : 0 ≤ sn ∧ sn < o.length := hsi rfl
      simp only [shortF, Bool.false_eq_true, if_false] at hsf
      obtain ⟨a, rfl⟩ : ∃ a : Nat, sn = a := ⟨sn.toNat, by omega⟩
      obtain ⟨b4, o4, h4', hc4⟩ := ho.int (i := a) (by omega)
      have hoa := hb _ (List.getElem_mem (show a < o.length by omega))
      have hg : o.getD (a : Int).toNat (-1) = o[a] := by simp [List.getD_eq_getElem?_getD, show a < o.length by omega]
      rw [hg] at hsf
      generalize o[a] = y at *
      simp -implicitDefEqProofs only [go_sem, Nat.reduceBEq, Nat.reduceAdd, Nat.reduceSub, Nat.reduceMul, Nat.reduceLeDiff, reduceCtorEq, ↓reduceIte, Int.reduceLT, Int.reduceLE, Int.reduceEq, Int.reduceNe]
      intro b
      refine s_idx h4' (by omega) (by omega) ?_
      simp -implicitDefEqProofs only [go_sem, Nat.reduceBEq, Nat.reduceAdd, Nat.reduceSub, Nat.reduceMul, Nat.reduceLeDiff, reduceCtorEq, ↓reduceIte, Int.reduceLT, Int.reduceLE, Int.reduceEq, Int.reduceNe]
      refine s_ld0 (hc4 _ (lk_r [] _)) (by simp) (by simp) ?_
      simp -implicitDefEqProofs only [go_sem, Nat.reduceBEq, Nat.reduceAdd, Nat.reduceSub, Nat.reduceMul, Nat.reduceLeDiff, reduceCtorEq, ↓reduceIte, Int.reduceLT, Int.reduceLE, Int.reduceEq, Int.reduceNe]
      refine ⟨fun hneg => Up.here ?_, fun hpos => ?_⟩
      · rw [if_pos hneg] at hsf
        subst hR
        exact ⟨rfl, by rw [hsf]⟩
      · rw [if_neg hpos] at hsf
        refine s_idx h4' (by omega) (by omega) ?_
        simp -implicitDefEqProofs only [go_sem, Nat.reduceBEq, Nat.reduceAdd, Nat.reduceSub, Nat.reduceMul, Nat.reduceLeDiff, reduceCtorEq, ↓reduceIte, Int.reduceLT, Int.reduceLE, Int.reduceEq, Int.reduceNe]
        refine s_ld0 (hc4 _ (lk_r [] _)) (by simp) (by simp) ?_
        simp -implicitDefEqProofs only [S154_2, go_sem, Nat.reduceBEq, Nat.reduceAdd, Nat.reduceSub, Nat.reduceMul, Nat.reduceLeDiff, reduceCtorEq, ↓reduceIte, Int.reduceLT, Int.reduceLE, Int.reduceEq, Int.reduceNe]
        simp (disch := omega) only [wrap_id]
        exact Up.here ⟨f - 1, by omega, Up.here ⟨i + 1, x + y, rfl, rfl, by omega, by omega, by omega, hsf⟩⟩
  · have hie : i = r.r.length := by omega
    subst hie
    rw [List.drop_length] at hsf
    refine Up.here ?_
    subst hR
    exact ⟨rfl, by rw [hsf]; rfl⟩
end Go.Proofs.Ytniobbepliknmaa.V
/- The text of parlance/census.Least as a statement (slots: 0 g, 1 g, 4 e, 5 out, 6 a, 7 again, 8 _, 9 r, 10 n); no condition. -/
namespace Go.Proofs.Ytniobbepliknmaa.V
open Go
def S83_1 : Stmt :=
 .seq
 (.region [.mk (some 22) none (.ibin .lss (.tmp 21) (.tmp 20))] [1,5,20,21,22])
 (.seq (.cond (.tmp 22) .skip (.exit 0))
 (.seq
 (.block 1
 (.seq
 (.region
 [.mk (some 23) none (.mv (.tmp 21)),.mk (some 6) none (.mv (.tmp 23))]
 [1,5,6,20,21])
 (.region
 [.mk (some 24) none (.mv (.tmp 5)),.mk (some 25) none (.mv (.tmp 6)),
 .mk (some 26) none (.idx 1 (.tmp 24) (.tmp 25)),
 .mk none none (.store 1 (.tmp 26) (.const (.int .i64 (-1))))]
 [1,5,20,21])))
 (.region
 [.mk (some 27) none (.ibin .add (.tmp 21) (.const (.int .i64 1))),
 .mk (some 21) none (.mv (.tmp 27))]
 [1,5,20,21])))
def S83_2 : Stmt :=
 .block 5
 (.seq
 (.region
 [.mk (some 34) none (.idx 2 (.tmp 30) (.tmp 32)),
 .mk (some 35) none (.load true 2 (.tmp 34)),
 .mk (some 9) none
 (.alloc true 37 (.agg (Array.mk [.int .i64 0,.slice none 0 0]))),
 .mk none none (.store 2 (.tmp 9) (.tmp 35))]
 [1,5,7,9,30,31,32])
 (.seq
 (.region
 [.mk (some 36) none (.load true 2 (.tmp 9)),.mk (some 37) none (.mv (.tmp 5)),
 .mk (some 38) none (.call (.func 154) [.tmp 36,.tmp 37]),
 .mk (some 10) none (.mv (.tmp 38))]
 [1,5,7,9,10,30,31,32])
 (.seq
 (.region
 [.mk (some 39) none (.mv (.tmp 10)),
 .mk (some 40) none (.ibin .geq (.tmp 39) (.const (.int .i64 0))),
 .mk (some 41) none (.mv (.tmp 40)),
 .mk (some 42) (some (41,true)) (.mv (.tmp 5)),
 .mk (some 43) (some (41,true)) (.fld 0 (.tmp 9)),
 .mk (some 44) (some (41,true)) (.load false 1 (.tmp 43)),
 .mk (some 45) (some (41,true)) (.idx 1 (.tmp 42) (.tmp 44)),
 .mk (some 46) (some (41,true)) (.load false 1 (.tmp 45)),
 .mk (some 47) (some (41,true))
 (.ibin .lss (.tmp 46) (.const (.int .i64 0))),
 .mk (some 48) (some (41,true)) (.mv (.tmp 47)),
 .mk (some 49) (some (48,false)) (.mv (.tmp 10)),
 .mk (some 50) (some (48,false)) (.mv (.tmp 5)),
 .mk (some 51) (some (48,false)) (.fld 0 (.tmp 9)),
 .mk (some 52) (some (48,false)) (.load false 1 (.tmp 51)),
 .mk (some 53) (some (48,false)) (.idx 1 (.tmp 50) (.tmp 52)),
 .mk (some 54) (some (48,false)) (.load false 1 (.tmp 53)),
 .mk (some 55) (some (48,false)) (.ibin .lss (.tmp 49) (.tmp 54)),
 .mk (some 56) (some (41,true))
 (.pick (.tmp 48) (.const (.bool true)) (.tmp 55)),
 .mk (some 57) none (.pick (.tmp 41) (.tmp 56) (.const (.bool false)))]
 [1,5,7,9,10,30,31,32,57])
 (.cond (.tmp 57)
 (.region
 [.mk (some 58) none (.mv (.tmp 5)),.mk (some 59) none (.fld 0 (.tmp 9)),
 .mk (some 60) none (.load false 1 (.tmp 59)),
 .mk (some 61) none (.mv (.tmp 10)),
 .mk (some 62) none (.idx 1 (.tmp 58) (.tmp 60)),
 .mk none none (.store 1 (.tmp 62) (.tmp 61)),
 .mk (some 7) none (.mv (.const (.bool true)))]
 [1,5,7,30,31,32])
 .skip))))
def S83_3 : Stmt :=
 .region
 [.mk (some 63) none (.ibin .add (.tmp 32) (.const (.int .i64 1))),
 .mk (some 32) none (.mv (.tmp 63))]
 [1,5,7,30,31,32]
def S83_4 : Stmt :=
 .seq
 (.region [.mk (some 33) none (.ibin .lss (.tmp 32) (.tmp 31))]
 [1,5,7,30,31,32,33])
 (.seq (.cond (.tmp 33) .skip (.exit 4)) (.join S83_2 S83_3 [7] [1,5,30,31,32]))
def S83_5 : Stmt :=
 .seq
 (.seq (.region [.mk (some 28) none (.mv (.tmp 7))] [1,5,28])
 (.cond (.tmp 28) .skip (.exit 2)))
 (.block 3
 (.seq (.region [.mk (some 7) none (.mv (.const (.bool false)))] [1,5,7])
 (.seq
 (.region
 [.mk (some 29) none (.fld 3 (.tmp 1)),
 .mk (some 30) none (.load false 1 (.tmp 29)),
 .mk (some 31) none (.len false (.tmp 30)),
 .mk (some 32) none (.mv (.const (.int .i64 0)))]
 [1,5,7,30,31,32])
 (.block 4 (.loop S83_4 [7,32] [1,5,30,31])))))
def S83_0 : Stmt :=
 .seq
 (.region
 [.mk (some 1) none (.box true 57 (.tmp 0)),
 .mk (some 2) none (.mv (.const (.slice none 0 0))),
 .mk (some 3) none (.mv (.const (.int .i64 0)))]
 [1])
 (.seq
 (.seq
 (.region
 [.mk (some 11) none (.load true 4 (.tmp 1)),
 .mk (some 12) none (.call (.func 112) [.tmp 11]),
 .mk (some 4) none (.mv (.tmp 12))]
 [1,4])
 (.seq
 (.region
 [.mk (some 13) none (.mv (.tmp 4)),
 .mk (some 14) none (.ibin .neq (.tmp 13) (.const (.int .i64 0)))]
 [1,4,14])
 (.cond (.tmp 14)
 (.seq
 (.region
 [.mk (some 15) none (.mv (.tmp 4)),
 .mk (some 2) none (.mv (.const (.slice none 0 0))),
 .mk (some 3) none (.mv (.tmp 15))]
 [2,3])
 .ret)
 .skip)))
 (.seq
 (.region
 [.mk (some 16) none (.fld 1 (.tmp 1)),
 .mk (some 17) none (.load false 1 (.tmp 16)),
 .mk (some 18) none (.mk 3 1 8 (.int .i64 0) (.tmp 17) (.tmp 17)),
 .mk (some 5) none (.mv (.tmp 18))]
 [1,5])
 (.seq
 (.seq
 (.region
 [.mk (some 19) none (.mv (.tmp 5)),.mk (some 20) none (.len false (.tmp 19)),
 .mk (some 21) none (.mv (.const (.int .i64 0)))]
 [1,5,20,21])
 (.block 0 (.loop S83_1 [21] [1,5,20])))
 (.seq
 (.seq (.region [.mk (some 7) none (.mv (.const (.bool true)))] [1,5,7])
 (.block 2 (.loop S83_5 [7] [1,5])))
 (.seq
 (.region
 [.mk (some 64) none (.mv (.tmp 5)),.mk (some 2) none (.mv (.tmp 64)),
 .mk (some 3) none (.mv (.const (.int .i64 0)))]
 [2,3])
 .ret)))))
def S83 : FnS := ⟨65,[(2,none),(3,none)],S83_0⟩
theorem tr83 : trFn Try.prog 83 [1,9] [[1],[1,4],[1,4,14],[2,3],[1,5],[1,5,20,21],[21],[1,5,20],[1,5,20,21,22],[1,5,6,20,21],[1,5,20,21],[1,5,20,21],[1,5,7],[7],[1,5],[1,5,28],[1,5,7],[1,5,7,30,31,32],[7,32],[1,5,30,31],[1,5,7,30,31,32,33],[7],[1,5,30,31,32],[1,5,7,9,30,31,32],[1,5,7,9,10,30,31,32],[1,5,7,9,10,30,31,32,57],[1,5,7,30,31,32],[1,5,7,30,31,32],[2,3]] = some S83 := by kernel_rfl
end Go.Proofs.Ytniobbepliknmaa.V
/- census.Least walked; no condition. -/
namespace Go.Proofs.Ytniobbepliknmaa.V
open Go
set_option linter.unusedVariables false
set_option linter.unusedSimpArgs false
attribute [local go_sem] e_seq e_region e_quiet e_join e_loop e_cond e_block e_exit e_ret e_skip e_fin e_kseq e_snrm e_sret e_sex e_bnrm e_bret e_bex e_rnrm e_rret e_res e_condC e_nil e_g e_mv g_mv e_pick g_pick pickC_eq e_ibin g_ibin ibinC_eq e_sbin g_sbin e_beq g_beq beqC_eq e_nilq g_nilq nilqC_sl nilqC_pt nilqC_mp e_un g_un unC_not unC_neg e_conv g_conv convC_eq e_fld g_fld fldC_ref fldC_ptr e_nilCheck g_nilCheck nilCheckC_ref nilCheckC_ptr nilCheckC_fun e_field g_field fieldC_eq e_len g_len lenC_sl lenC_str e_extract g_extract extractC_eq e_mkFunc e_build g_build e_idiv g_idiv idivC_eq e_ishift g_ishift ishiftC_eq e_idx g_idx e_idxA g_idxA e_load g_load e_loadB g_loadB atB_ref atB_v g_mkFunc loadC_ref loadC_ptr loadB_eq e_slc g_slc e_box boxC_loc boxC_esc e_alloc allocC_loc allocC_esc e_buildS e_store storeC_ref storeC_ptr storeB_eq e_append e_appz e_mk mkC_eq e_call callC_eq e_fn g_fn fnC_eq fnV_min' fnV_max' fnV_rune' e_q g_q e_a e_n g_call g_box g_alloc g_buildS g_store g_append g_mk g_a g_n g_dead e_dead e_callK e_drawn e_tree e_finJ e_tk e_tfin e_tno e_nbt_q e_nbt_qn e_nbt_a e_nbt_an e_nbt_fin e_drawnB e_bxb_nil e_bxb e_stB_none e_stB_some boxSt_store bs_mv bs_pick bs_ibin bs_idiv bs_ishift bs_sbin bs_beq bs_nilq bs_un bs_conv bs_box bs_alloc bs_build bs_buildS bs_load bs_fld bs_nilCheck bs_idx bs_idxA bs_field bs_slc bs_len bs_append bs_appz bs_mk bs_call bs_extract bs_mkFunc bs_fn bs_q bs_a bs_n bs_loadB bs_dead isBox_box e_early_nil e_early_t e_early_f e_nob_nil e_nob_none e_nob_some isBox_dead isBox_v isBox_ref e_dnil e_dk e_ek e_finB vcOps_vc1 e_dcons e_tq e_ekt e_tearly e_talt e_dearly look_nil look_c proj_nil proj_c looks_nil looks_c zip_nil zip_c val_tmp val_const val_func slv_v slv_box slv_ref slot_tmp slot_const slot_func slotL_v slotL_box slotL_ref put_some put_none updBox_c boxSet_box gd_eq slotVals_nil slotVals_c slotVals_b boxV_box boxOn_box slotsOn_nil slotsOn_c slotsOn_b resV_one resV_two vals_nil vals_c allOn_nil allOn_c partOn_nil partOn_c partVals_nil partVals_c fits_nil fits_c fillL_nil fillL_c mkv_one mkv_agg cellsV_agg cellsV_int cellsV_bool cellsV_slice cellsV_string cellsV_pointer cellsV_func cellsV_nilf cellsV_map one'_nil one'_c oc_int oc_bool oc_slice oc_string oc_pointer oc_func oc_nilf oc_map setC_eq iv_add iv_sub iv_mul iv_eql iv_neq iv_lss iv_leq iv_gtr iv_geq iok_add iok_sub iok_mul iok_eql iok_neq iok_lss iok_leq iok_gtr iok_geq pickV_bool args0_nil args0_c bnd_none bnd_some imp_bt imp_bf imp_ebt imp_ebf imp_eb1 imp_np imp_pp beq_tt beq_tf beq_ft beq_ff cond_or cond_and e_round e_meet Int.le_refl Int.toNat_zero decide_true decide_false Bool.or_false Bool.false_or Bool.true_or Bool.or_true Bool.and_false Bool.false_and Bool.bne_false Bool.bne_true beq_iff_eq Int.cast_ofNat_Int not_false_eq_true not_true_eq_false false_and and_false false_implies true_implies true_and and_true Bool.true_and Bool.and_true Bool.not_true Bool.not_false forall_const implies_true List.take_zero List.drop_zero List.take_succ_cons List.drop_succ_cons List.take_nil List.drop_nil List.length_cons List.length_nil List.nil_append List.append_nil List.cons_append Int.toNat_natCast decide_eq_true_eq decide_eq_false_iff_not cond_true cond_false and_self List.getElem?_cons_zero List.getElem?_cons_succ List.set_cons_zero List.set_cons_succ Option.some.injEq exists_eq_left' Nat.zero_add Nat.add_zero Nat.mul_one imp_self true_or or_true or_false false_or Bool.or_eq_true Bool.or_eq_false_iff Bool.and_eq_true Bool.and_eq_false_iff Bool.not_eq_true' Bool.not_eq_false'

/-- how much may still be taken away -/
def wtL (o : List Int) : Nat := (o.map fun x => if x < 0 then 1048577 else x.toNat).sum
def setL (o : List Int) : Nat := o.countP fun x => decide (0 ≤ x)
theorem wtL_set : ∀ {o : List Int} {a : Nat} (ha : a < o.length) {x : Int}, 0 ≤ x → x ≤ 1048576 → (o[a] < 0 ∨ x < o[a]) → wtL (o.set a x) < wtL o
  | y :: o, 0, _, x, h0, h1, h2 => by
    simp only [List.getElem_cons_zero] at h2
    simp only [wtL, List.set_cons_zero, List.map_cons, List.sum_cons]
    rw [if_neg (by omega)]
    split <;> omega
  | y :: o, a + 1, ha, x, h0, h1, h2 => by
    have := wtL_set (o := o) (a := a) (by simpa using ha) h0 h1 (by simpa using h2)
    simp only [wtL, List.set_cons_succ, List.map_cons, List.sum_cons] at this ⊢
    omega
theorem setL_set : ∀ {o : List Int} {a : Nat} (ha : a < o.length) {x : Int}, 0 ≤ x → setL (o.set a x) = setL o + (if o[a] < 0 then 1 else 0)
  | y :: o, 0, _, x, h0 => by
    simp only [setL, List.set_cons_zero, List.countP_cons, List.getElem_cons_zero]
    by_cases h : y < 0
    · have : ¬ 0 ≤ y := by omega
      simp [h, h0, this]
    · have : 0 ≤ y := by omega
      simp [h, h0, this]
  | y :: o, a + 1, ha, x, h0 => by
    have := setL_set (o := o) (a := a) (by simpa using ha) h0
    simp only [setL, List.set_cons_succ, List.countP_cons, List.getElem_cons_succ] at this ⊢
    omega
structure LeaI (g : Gr) (o : List Int) : Prop where
  len : o.length = g.ns.toNat
  low : ∀ x ∈ o, -1 ≤ x ∧ x ≤ ((4 ^ setL o : Nat) : Int)
  snd : LeaS g o
theorem LeaI.set_le {g : Gr} (V : VG g) {o : List Int} (h : LeaI g o) : 4 ^ setL o ≤ 1048576 := by
  have h1 : setL o ≤ o.length := List.countP_le_length
  have h2 := h.len
  have h3 := V.ns
  exact Nat.le_trans (Nat.pow_le_pow_right (by omega) (show setL o ≤ 10 by omega)) (by decide)
theorem LeaI.put {g : Gr} (V : VG g) {o : List Int} (h : LeaI g o) {r : Ru} (hr : r ∈ g.rs) {a : Nat} (ha : r.l = (a : Int)) (haN : a < o.length) (hn : 0 ≤ shortF o 0 r.r) (hc : o[a] < 0 ∨ shortF o 0 r.r < o[a]) :
    LeaI g (o.set a (shortF o 0 r.r)) ∧ wtL (o.set a (shortF o 0 r.r)) < wtL o := by
  have hsy := fun s hs => (V.sym r hr s hs).1
  have h4 := V.right r hr
  have hB : 1 ≤ 4 ^ setL o := Nat.pos_of_ne_zero (by simp)
  have hle := short_le (o := o) (B := ((4 ^ setL o : Nat) : Int)) (by omega) (fun x hx => (h.low x hx).2) r.r 0 (by omega)
  have hmul : ((r.r.length : Int)) * ((4 ^ setL o : Nat) : Int) ≤ 4 * ((4 ^ setL o : Nat) : Int) := Int.mul_le_mul_of_nonneg_right (by omega) (by omega)
  have hset := setL_set haN hn
  have hss := short_sound h.snd hsy (by omega) hn
  rw [show shortF o 0 r.r - 0 = shortF o 0 r.r by omega] at hss
  have hnew : LeaI g (o.set a (shortF o 0 r.r)) := by
    refine ⟨by simp [h.len], fun x hx => ?_, fun b hb => ?_⟩
    · rw [hset]
      have hpow : 4 ^ (setL o + 1) = 4 * 4 ^ setL o := by rw [Nat.pow_succ, Nat.mul_comm]
      rcases List.mem_or_eq_of_mem_set hx with q | q
      · have := h.low x q
        split
        · rw [hpow]; omega
        · rw [Nat.add_zero]; exact this
      · subst q
        split
        · rw [hpow]; omega
        · rename_i w
          rw [Nat.add_zero]
          have := (h.low _ (List.getElem_mem haN)).2
          omega
    · rw [List.getD_eq_getElem?_getD, List.getElem?_set] at hb ⊢
      by_cases e : a = b
      · subst e
        rw [if_pos rfl, if_pos haN]
        exact ⟨r, hr, ha, hss.2⟩
      · rw [if_neg e] at hb ⊢
        rw [← List.getD_eq_getElem?_getD] at hb ⊢
        exact h.snd b hb
  refine ⟨hnew, wtL_set haN hn ?_ hc⟩
  have h1 := hnew.set_le V
  have h2 := hnew.low _ (List.mem_of_getElem? (List.getElem?_set_self haN))
  omega
theorem census_least {Γr : Ctx} {g : Gr} {R : Option Addr} {cR : Nat} (hx : SlOk (lk Γr) R cR g.rs) :
    Ret Try.prog 83 [.agg #[.int .i64 g.ts, .int .i64 g.ns, .int .i64 g.st, .slice R g.rs.length cR]] Γr [] (fun v Γ => (ckF g ≠ 0 ∧ Γ = [] ∧ v = .tuple #[.slice none 0 0, .int .i64 (ckF g)]) ∨
      (ckF g = 0 ∧ ∃ go A c o, Γ = [go] ∧ v = .tuple #[.slice A o.length c, .int .i64 0] ∧ SlOk (lk [go]) A c o ∧ LeaO g o)) := by
  generalize hR : (fun (v : Value) (Γ : Ctx) => _ ∨ _) = R'
  refine ret_of_vc tr83 (Nat.le_of_ble_eq_true rfl) ?_
  simp -implicitDefEqProofs only [S83, S83_0, go_sem, Nat.reduceBEq, Nat.reduceAdd, Nat.reduceSub, Nat.reduceMul, Nat.reduceLeDiff, reduceCtorEq, ↓reduceIte, Int.reduceLT, Int.reduceLE, Int.reduceEq, Int.reduceNe]
  intro bg
  refine CallVC.read (Γ := []) (gram_check (Γr := [] ++ Γr) hx) ?_
  rintro v Γ' ⟨rfl, rfl⟩
  simp -implicitDefEqProofs only [go_sem, Nat.reduceBEq, Nat.reduceAdd, Nat.reduceSub, Nat.reduceMul, Nat.reduceLeDiff, reduceCtorEq, ↓reduceIte, Int.reduceLT, Int.reduceLE, Int.reduceEq, Int.reduceNe]
  refine ⟨fun hne => Up.here ?_, fun h0 => ?_⟩
  · subst hR
    exact .inl ⟨hne, rfl, rfl⟩
  have V := ckF_ok (show ckF g = 0 by omega)
  have hns := V.ns
  have hvl := V.len
  have hsh := hx.short
  obtain ⟨N, hN⟩ : ∃ N : Nat, g.ns = N := ⟨g.ns.toNat, by omega⟩
  have hN' : g.ns.toNat = N := by omega
  rw [hN]
  refine ⟨by omega, by omega, fun bo => ?_⟩
  refine s_loop (fun f vs Γ => ∃ (i : Nat) (go : PH), vs = [.v true (.int .i64 (i : Int))] ∧ Γ = [go] ∧ i + f = N ∧ Arr go bo 3 (prow (-1 : Int) 0 N i)) N
    (Up.here ⟨0, _, rfl, rfl, by omega, by rw [prow_zero]; exact Arr.made (0 : Int) bo 3 N⟩) ?_
  · rintro f vs Γ ⟨i, go, rfl, rfl, hif, hA⟩
    simp -implicitDefEqProofs only [S83_1, go_sem, Nat.reduceBEq, Nat.reduceAdd, Nat.reduceSub, Nat.reduceMul, Nat.reduceLeDiff, reduceCtorEq, ↓reduceIte, Int.reduceLT, Int.reduceLE, Int.reduceEq, Int.reduceNe]
    refine ⟨fun hlt => ?_, fun hge => ?_⟩
    · have hi : i < N := by omega
      have hpl := prow_len (-1 : Int) 0 (n := N) (j := i) (by omega)
      refine s_idx rfl (by omega) (by omega) ?_
      simp -implicitDefEqProofs only [go_sem, Nat.reduceBEq, Nat.reduceAdd, Nat.reduceSub, Nat.reduceMul, Nat.reduceLeDiff, reduceCtorEq, ↓reduceIte, Int.reduceLT, Int.reduceLE, Int.reduceEq, Int.reduceNe]
      refine s_storeA (ix := 0) (α := Int) (-1) rfl hA (i := i) (by omega) ?_
      intro g2 hA2 _
      rw [prow_set (-1 : Int) 0 hi] at hA2
      simp -implicitDefEqProofs only [go_sem, Nat.reduceBEq, Nat.reduceAdd, Nat.reduceSub, Nat.reduceMul, Nat.reduceLeDiff, reduceCtorEq, ↓reduceIte, Int.reduceLT, Int.reduceLE, Int.reduceEq, Int.reduceNe]
      simp (disch := omega) only [wrap_id]
      exact ⟨f - 1, by omega, Up.here ⟨i + 1, g2, rfl, rfl, by omega, hA2⟩⟩
    · have hie : i = N := by omega
      rw [hie, prow_all] at hA
      have hI0 : LeaI g (List.replicate N (-1 : Int)) := ⟨by simp [hN'], fun x hx => by rw [List.eq_of_mem_replicate hx]; exact ⟨by omega, Int.le_trans (by decide) (Int.natCast_nonneg _)⟩, fun a q => by
        simp only [List.getD_eq_getElem?_getD, List.getElem?_replicate] at q
        split at q <;> simp at q⟩
      generalize List.replicate N (-1 : Int) = o at hA hI0
      refine s_loop (fun f vs Γ => ∃ (go : PH) (o : List Int) (ag : Bool), vs = [.v true (.bool ag)] ∧ Γ = [go] ∧ Arr go bo 3 o ∧ LeaI g o ∧ f = wtL o + (if ag then 1 else 0) ∧ (ag = false → LeaC g o)) (wtL o + 1)
        (Up.here ⟨go, o, true, rfl, rfl, hA, hI0, rfl, fun h => by cases h⟩) ?_
      clear hA hI0 hif hge
      rintro f vs Γ ⟨go, o0, ag, rfl, rfl, hA, hI, hf, hC⟩
      cases ag with
      | false =>
        simp -implicitDefEqProofs only [S83_5, go_sem, Nat.reduceBEq, Nat.reduceAdd, Nat.reduceSub, Nat.reduceMul, Nat.reduceLeDiff, reduceCtorEq, ↓reduceIte, Int.reduceLT, Int.reduceLE, Int.reduceEq, Int.reduceNe]
        refine Up.here ?_
        subst hR
        have hl := hI.len
        have hSo := Arr.slok (g := go) (b := bo) (T := 3) hA (Mem.le.refl _) (Nat.le_refl _) (by unfold maxLen; omega) (by omega)
        refine .inr ⟨h0, go, some ⟨bo, 0, none⟩, o0.length, o0, rfl, ?_, hSo, lea_of V hI.len (fun x hx => (hI.low x hx).1) hI.snd (hC rfl)⟩
        rw [show o0.length = N by omega]
      | true =>
        simp -implicitDefEqProofs only [S83_5, go_sem, Nat.reduceBEq, Nat.reduceAdd, Nat.reduceSub, Nat.reduceMul, Nat.reduceLeDiff, reduceCtorEq, ↓reduceIte, Int.reduceLT, Int.reduceLE, Int.reduceEq, Int.reduceNe]
        refine s_loop (fun f1 vs Γ => ∃ (go : PH) (o : List Int) (ag : Bool) (i : Nat), vs = [.v true (.bool ag), .v true (.int .i64 (i : Int))] ∧ Γ = [go] ∧ i + f1 = g.rs.length ∧ Arr go bo 3 o ∧ LeaI g o ∧ wtL o + (if ag then 1 else 0) ≤ wtL o0 ∧ (ag = false → ∀ r ∈ g.rs.take i, 0 ≤ shortF o 0 r.r → 0 ≤ o.getD r.l.toNat (-1) ∧ o.getD r.l.toNat (-1) ≤ shortF o 0 r.r)) g.rs.length
          (Up.here ⟨go, o0, false, 0, rfl, rfl, by omega, hA, hI, by simp, fun _ r hr => by simp at hr⟩) ?_
        clear hA hI hC
        rintro f1 vs Γ ⟨go, o, ag, i, rfl, rfl, hif, hA, hI, hw, hC⟩
        simp -implicitDefEqProofs only [S83_4, go_sem, Nat.reduceBEq, Nat.reduceAdd, Nat.reduceSub, Nat.reduceMul, Nat.reduceLeDiff, reduceCtorEq, ↓reduceIte, Int.reduceLT, Int.reduceLE, Int.reduceEq, Int.reduceNe]
        refine ⟨fun hlt => ?_, fun hge => ?_⟩
        · have hi : i < g.rs.length := by omega
          have hmem := List.getElem_mem hi
          have htk : g.rs.take (i + 1) = g.rs.take i ++ [g.rs[i]] := List.take_succ_eq_append_getElem hi
          have hleft := V.left _ hmem
          have hr4 := V.right _ hmem
          have hsym := V.sym _ hmem
          obtain ⟨b0, o0', h0', A1, c1, hr1, hcr⟩ := hx.ru hi
          generalize g.rs[i] = r at *
          obtain ⟨a, ha⟩ : ∃ a : Nat, r.l = a := ⟨r.l.toNat, by omega⟩
          have hol := hI.len
          have haN : a < o.length := by omega
          have hle := hI.set_le V
          have hSo := Arr.slok (g := go) (b := bo) (T := 3) hA (lk_l [go] Γr) (Nat.le_refl _) (by unfold maxLen; omega) (by omega)
          have hput := hI.put V hmem ha haN
          have hg : o.getD r.l.toNat (-1) = o[a] := by rw [ha, Int.toNat_natCast]; simp [List.getD_eq_getElem?_getD, haN]
          have hnext : (0 ≤ shortF o 0 r.r → 0 ≤ o[a] ∧ o[a] ≤ shortF o 0 r.r) → ag = false → ∀ r' ∈ g.rs.take (i + 1), 0 ≤ shortF o 0 r'.r → 0 ≤ o.getD r'.l.toNat (-1) ∧ o.getD r'.l.toNat (-1) ≤ shortF o 0 r'.r := by
            intro q h r' hr' hs
            rw [htk] at hr'
            rcases List.mem_append.1 hr' with w | w
            · exact hC h r' w hs
            · simp only [List.mem_singleton] at w
              subst w
              rw [hg]
              exact q hs
          refine s_split ?_
          simp -implicitDefEqProofs only [S83_2, go_sem, Nat.reduceBEq, Nat.reduceAdd, Nat.reduceSub, Nat.reduceMul, Nat.reduceLeDiff, reduceCtorEq, ↓reduceIte, Int.reduceLT, Int.reduceLE, Int.reduceEq, Int.reduceNe]
          refine s_idx h0' (by omega) (by omega) ?_
          simp -implicitDefEqProofs only [go_sem, Nat.reduceBEq, Nat.reduceAdd, Nat.reduceSub, Nat.reduceMul, Nat.reduceLeDiff, reduceCtorEq, ↓reduceIte, Int.reduceLT, Int.reduceLE, Int.reduceEq, Int.reduceNe]
          refine s_ld0 (by simpa using hcr _ (lk_r [go] _)) (by simp) (by simp) ?_
          simp -implicitDefEqProofs only [go_sem, Nat.reduceBEq, Nat.reduceAdd, Nat.reduceSub, Nat.reduceMul, Nat.reduceLeDiff, reduceCtorEq, ↓reduceIte, Int.reduceLT, Int.reduceLE, Int.reduceEq, Int.reduceNe]
          intro bx
          rw [show (Value.slice (some ⟨bo, 0, none⟩) N N) = .slice (some ⟨bo, 0, none⟩) o.length o.length by rw [hol, hN']]
          refine CallVC.read (census_shortest (Γr := [go] ++ Γr) (hr1.mono (lk_r [go] _)) hSo (fun s hs h => ⟨(hsym s hs).1, by have := (hsym s hs).2.2 h; omega⟩) hr4 (fun x hx => ⟨(hI.low x hx).1, by have := (hI.low x hx).2; omega⟩)) ?_
          rintro v Γ' ⟨rfl, rfl⟩
          generalize shortF o 0 r.r = n at hput hnext
          have hoa := (hI.low _ (List.getElem_mem haN)).1
          have hcell : ∀ Γ : Ctx, go ∈ Γ → Cells Γ bo a [.int .i64 o[a]] := fun Γ hg => hA.cell (i := a) haN hg
          have hNl : (N : Int) = o.length := by omega
          simp -implicitDefEqProofs only [go_sem, Nat.reduceBEq, Nat.reduceAdd, Nat.reduceSub, Nat.reduceMul, Nat.reduceLeDiff, reduceCtorEq, ↓reduceIte, Int.reduceLT, Int.reduceLE, Int.reduceEq, Int.reduceNe]
          rw [ha]
          by_cases hn : 0 ≤ n
          · rw [show decide ((0 : Int) ≤ n) = true from decide_eq_true hn]
            simp -implicitDefEqProofs only [go_sem, Nat.reduceBEq, Nat.reduceAdd, Nat.reduceSub, Nat.reduceMul, Nat.reduceLeDiff, reduceCtorEq, ↓reduceIte, Int.reduceLT, Int.reduceLE, Int.reduceEq, Int.reduceNe]
            refine s_idx rfl (by omega) (by omega) ?_
            simp -implicitDefEqProofs only [go_sem, Nat.reduceBEq, Nat.reduceAdd, Nat.reduceSub, Nat.reduceMul, Nat.reduceLeDiff, reduceCtorEq, ↓reduceIte, Int.reduceLT, Int.reduceLE, Int.reduceEq, Int.reduceNe]
            refine s_ld0 (by simpa using hcell _ (by simp)) (by simp) (by simp) ?_
            simp -implicitDefEqProofs only [go_sem, Nat.reduceBEq, Nat.reduceAdd, Nat.reduceSub, Nat.reduceMul, Nat.reduceLeDiff, reduceCtorEq, ↓reduceIte, Int.reduceLT, Int.reduceLE, Int.reduceEq, Int.reduceNe]
            by_cases hneg : o[a] < 0
            · rw [show decide (o[a] < 0) = true from decide_eq_true hneg]
              simp -implicitDefEqProofs only [go_sem, Nat.reduceBEq, Nat.reduceAdd, Nat.reduceSub, Nat.reduceMul, Nat.reduceLeDiff, reduceCtorEq, ↓reduceIte, Int.reduceLT, Int.reduceLE, Int.reduceEq, Int.reduceNe]
              refine s_idxg (b := 0) (o := 0) (by simp) ?_
              simp -implicitDefEqProofs only [go_sem, Nat.reduceBEq, Nat.reduceAdd, Nat.reduceSub, Nat.reduceMul, Nat.reduceLeDiff, reduceCtorEq, ↓reduceIte, Int.reduceLT, Int.reduceLE, Int.reduceEq, Int.reduceNe]
              refine s_ldg0 (cs := [.int .i64 0]) (by simp) (by simp) (by simp) (by simp) ?_
              simp -implicitDefEqProofs only [go_sem, Nat.reduceBEq, Nat.reduceAdd, Nat.reduceSub, Nat.reduceMul, Nat.reduceLeDiff, reduceCtorEq, ↓reduceIte, Int.reduceLT, Int.reduceLE, Int.reduceEq, Int.reduceNe]
              refine s_idx rfl (by omega) (by omega) ?_
              simp -implicitDefEqProofs only [go_sem, Nat.reduceBEq, Nat.reduceAdd, Nat.reduceSub, Nat.reduceMul, Nat.reduceLeDiff, reduceCtorEq, ↓reduceIte, Int.reduceLT, Int.reduceLE, Int.reduceEq, Int.reduceNe]
              refine s_storeA (ix := 0) (α := Int) n rfl hA (i := a) haN ?_
              intro g2 hA2 _
              obtain ⟨hI2, hw2⟩ := hput hn (.inl hneg)
              simp -implicitDefEqProofs only [S83_3, go_sem, Nat.reduceBEq, Nat.reduceAdd, Nat.reduceSub, Nat.reduceMul, Nat.reduceLeDiff, reduceCtorEq, ↓reduceIte, Int.reduceLT, Int.reduceLE, Int.reduceEq, Int.reduceNe]
              simp (disch := omega) only [wrap_id]
              refine Up.here ⟨f1 - 1, by omega, Up.here ⟨g2, _, true, i + 1, rfl, rfl, by omega, hA2, hI2, ?_, fun h => by cases h⟩⟩
              revert hw
              cases ag <;> simp <;> omega
            · rw [show decide (o[a] < 0) = false from decide_eq_false hneg]
              simp -implicitDefEqProofs only [go_sem, Nat.reduceBEq, Nat.reduceAdd, Nat.reduceSub, Nat.reduceMul, Nat.reduceLeDiff, reduceCtorEq, ↓reduceIte, Int.reduceLT, Int.reduceLE, Int.reduceEq, Int.reduceNe]
              refine s_idx rfl (by omega) (by omega) ?_
              simp -implicitDefEqProofs only [go_sem, Nat.reduceBEq, Nat.reduceAdd, Nat.reduceSub, Nat.reduceMul, Nat.reduceLeDiff, reduceCtorEq, ↓reduceIte, Int.reduceLT, Int.reduceLE, Int.reduceEq, Int.reduceNe]
              refine s_ld0 (by simpa using hcell _ (by simp)) (by simp) (by simp) ?_
              simp -implicitDefEqProofs only [go_sem, Nat.reduceBEq, Nat.reduceAdd, Nat.reduceSub, Nat.reduceMul, Nat.reduceLeDiff, reduceCtorEq, ↓reduceIte, Int.reduceLT, Int.reduceLE, Int.reduceEq, Int.reduceNe]
              refine ⟨fun hlt2 => ?_, fun hge2 => ?_⟩
              · skip
                refine s_idx rfl (by omega) (by omega) ?_
                simp -implicitDefEqProofs only [go_sem, Nat.reduceBEq, Nat.reduceAdd, Nat.reduceSub, Nat.reduceMul, Nat.reduceLeDiff, reduceCtorEq, ↓reduceIte, Int.reduceLT, Int.reduceLE, Int.reduceEq, Int.reduceNe]
                refine s_storeA (ix := 0) (α := Int) n rfl hA (i := a) haN ?_
                intro g2 hA2 _
                obtain ⟨hI2, hw2⟩ := hput hn (.inr hlt2)
                simp -implicitDefEqProofs only [S83_3, go_sem, Nat.reduceBEq, Nat.reduceAdd, Nat.reduceSub, Nat.reduceMul, Nat.reduceLeDiff, reduceCtorEq, ↓reduceIte, Int.reduceLT, Int.reduceLE, Int.reduceEq, Int.reduceNe]
                simp (disch := omega) only [wrap_id]
                refine Up.here ⟨f1 - 1, by omega, Up.here ⟨g2, _, true, i + 1, rfl, rfl, by omega, hA2, hI2, ?_, fun h => by cases h⟩⟩
                revert hw
                cases ag <;> simp <;> omega
              · skip
                simp -implicitDefEqProofs only [S83_3, go_sem, Nat.reduceBEq, Nat.reduceAdd, Nat.reduceSub, Nat.reduceMul, Nat.reduceLeDiff, reduceCtorEq, ↓reduceIte, Int.reduceLT, Int.reduceLE, Int.reduceEq, Int.reduceNe]
                simp (disch := omega) only [wrap_id]
                exact Up.here ⟨f1 - 1, by omega, Up.here ⟨go, o, ag, i + 1, rfl, rfl, by omega, hA, hI, hw, hnext fun h => ⟨by omega, by omega⟩⟩⟩
          · rw [show decide ((0 : Int) ≤ n) = false from decide_eq_false hn]
            simp -implicitDefEqProofs only [go_sem, Nat.reduceBEq, Nat.reduceAdd, Nat.reduceSub, Nat.reduceMul, Nat.reduceLeDiff, reduceCtorEq, ↓reduceIte, Int.reduceLT, Int.reduceLE, Int.reduceEq, Int.reduceNe]
            refine s_idxg (b := 0) (o := 0) (by simp) ?_
            simp -implicitDefEqProofs only [go_sem, Nat.reduceBEq, Nat.reduceAdd, Nat.reduceSub, Nat.reduceMul, Nat.reduceLeDiff, reduceCtorEq, ↓reduceIte, Int.reduceLT, Int.reduceLE, Int.reduceEq, Int.reduceNe]
            refine s_ldg0 (cs := [.int .i64 0]) (by simp) (by simp) (by simp) (by simp) ?_
            simp -implicitDefEqProofs only [go_sem, Nat.reduceBEq, Nat.reduceAdd, Nat.reduceSub, Nat.reduceMul, Nat.reduceLeDiff, reduceCtorEq, ↓reduceIte, Int.reduceLT, Int.reduceLE, Int.reduceEq, Int.reduceNe]
            refine s_idxg (b := 0) (o := 0) (by simp) ?_
            simp -implicitDefEqProofs only [go_sem, Nat.reduceBEq, Nat.reduceAdd, Nat.reduceSub, Nat.reduceMul, Nat.reduceLeDiff, reduceCtorEq, ↓reduceIte, Int.reduceLT, Int.reduceLE, Int.reduceEq, Int.reduceNe]
            refine s_ldg0 (cs := [.int .i64 0]) (by simp) (by simp) (by simp) (by simp) ?_
            simp -implicitDefEqProofs only [go_sem, Nat.reduceBEq, Nat.reduceAdd, Nat.reduceSub, Nat.reduceMul, Nat.reduceLeDiff, reduceCtorEq, ↓reduceIte, Int.reduceLT, Int.reduceLE, Int.reduceEq, Int.reduceNe]
            simp -implicitDefEqProofs only [S83_3, go_sem, Nat.reduceBEq, Nat.reduceAdd, Nat.reduceSub, Nat.reduceMul, Nat.reduceLeDiff, reduceCtorEq, ↓reduceIte, Int.reduceLT, Int.reduceLE, Int.reduceEq, Int.reduceNe]
            simp (disch := omega) only [wrap_id]
            exact Up.here ⟨f1 - 1, by omega, Up.here ⟨go, o, ag, i + 1, rfl, rfl, by omega, hA, hI, hw, hnext fun h => absurd h hn⟩⟩
        · have hie : i = g.rs.length := by omega
          subst hie
          rw [List.take_length] at hC
          refine ⟨wtL o + (if ag then 1 else 0), ?_, Up.here ⟨go, o, ag, rfl, rfl, hA, hI, rfl, hC⟩⟩
          rw [hf]
          revert hw
          cases ag <;> simp <;> omega
end Go.Proofs.Ytniobbepliknmaa.V
/- The text of parlance/parlref5.Shortest as a statement (slots: 0 g, 1 g, 3 out, 4 i, 5 best, 6 who, 7 _, 8 r, 9 n, 10 _, 11 s); no condition. -/
namespace Go.Proofs.Ytniobbepliknmaa.V
open Go
def S84_1 : Stmt :=
 .seq
 (.region [.mk (some 18) none (.ibin .lss (.tmp 17) (.tmp 16))] [1,3,16,17,18])
 (.seq (.cond (.tmp 18) .skip (.exit 0))
 (.seq
 (.block 1
 (.seq
 (.region
 [.mk (some 19) none (.mv (.tmp 17)),.mk (some 4) none (.mv (.tmp 19))]
 [1,3,4,16,17])
 (.region
 [.mk (some 20) none (.mv (.tmp 3)),.mk (some 21) none (.mv (.tmp 4)),
 .mk (some 22) none (.idx 1 (.tmp 20) (.tmp 21)),
 .mk none none (.store 1 (.tmp 22) (.const (.int .i64 (-1))))]
 [1,3,16,17])))
 (.region
 [.mk (some 23) none (.ibin .add (.tmp 17) (.const (.int .i64 1))),
 .mk (some 17) none (.mv (.tmp 23))]
 [1,3,16,17])))
def S84_2 : Stmt :=
 .block 7
 (.seq
 (.region
 [.mk (some 46) none (.idx 2 (.tmp 42) (.tmp 44)),
 .mk (some 47) none (.load true 2 (.tmp 46)),
 .mk (some 11) none (.alloc true 39 (.agg (Array.mk [.bool false,.int .i64 0]))),
 .mk none none (.store 2 (.tmp 11) (.tmp 47))]
 [1,3,5,6,8,9,11,25,26,29,30,31,42,43,44])
 (.seq
 (.region
 [.mk (some 48) none (.fld 0 (.tmp 11)),
 .mk (some 49) none (.load false 1 (.tmp 48))]
 [1,3,5,6,8,9,11,25,26,29,30,31,42,43,44,49])
 (.cond (.tmp 49)
 (.region
 [.mk (some 50) none (.mv (.tmp 9)),
 .mk (some 51) none (.ibin .add (.tmp 50) (.const (.int .i64 1))),
 .mk (some 9) none (.mv (.tmp 51))]
 [1,3,5,6,8,9,25,26,29,30,31,42,43,44])
 (.seq
 (.region
 [.mk (some 52) none (.mv (.tmp 3)),.mk (some 53) none (.fld 1 (.tmp 11)),
 .mk (some 54) none (.load false 1 (.tmp 53)),
 .mk (some 55) none (.idx 1 (.tmp 52) (.tmp 54)),
 .mk (some 56) none (.load false 1 (.tmp 55)),
 .mk (some 57) none (.ibin .lss (.tmp 56) (.const (.int .i64 0)))]
 [1,3,5,6,8,9,11,25,26,29,30,31,42,43,44,57])
 (.cond (.tmp 57)
 (.region [.mk (some 9) none (.mv (.const (.int .i64 1125899906842624)))]
 [1,3,5,6,8,9,25,26,29,30,31,42,43,44])
 (.region
 [.mk (some 58) none (.mv (.tmp 9)),.mk (some 59) none (.mv (.tmp 3)),
 .mk (some 60) none (.fld 1 (.tmp 11)),
 .mk (some 61) none (.load false 1 (.tmp 60)),
 .mk (some 62) none (.idx 1 (.tmp 59) (.tmp 61)),
 .mk (some 63) none (.load false 1 (.tmp 62)),
 .mk (some 64) none (.ibin .add (.tmp 58) (.tmp 63)),
 .mk (some 9) none (.mv (.tmp 64))]
 [1,3,5,6,8,9,25,26,29,30,31,42,43,44]))))))
def S84_3 : Stmt :=
 .region
 [.mk (some 65) none (.ibin .add (.tmp 44) (.const (.int .i64 1))),
 .mk (some 44) none (.mv (.tmp 65))]
 [1,3,5,6,8,9,25,26,29,30,31,42,43,44]
def S84_4 : Stmt :=
 .seq
 (.region [.mk (some 45) none (.ibin .lss (.tmp 44) (.tmp 43))]
 [1,3,5,6,8,9,25,26,29,30,31,42,43,44,45])
 (.seq (.cond (.tmp 45) .skip (.exit 6))
 (.join S84_2 S84_3 [9] [1,3,5,6,8,25,26,29,30,31,42,43,44]))
def S84_5 : Stmt :=
 .block 5
 (.seq
 (.region
 [.mk (some 33) none (.idx 2 (.tmp 29) (.tmp 31)),
 .mk (some 34) none (.load true 2 (.tmp 33)),
 .mk (some 8) none
 (.alloc true 37 (.agg (Array.mk [.int .i64 0,.slice none 0 0]))),
 .mk none none (.store 2 (.tmp 8) (.tmp 34))]
 [1,3,5,6,8,25,26,29,30,31])
 (.seq
 (.seq
 (.region
 [.mk (some 35) none (.mv (.tmp 3)),.mk (some 36) none (.fld 0 (.tmp 8)),
 .mk (some 37) none (.load false 1 (.tmp 36)),
 .mk (some 38) none (.idx 1 (.tmp 35) (.tmp 37)),
 .mk (some 39) none (.load false 1 (.tmp 38)),
 .mk (some 40) none (.ibin .geq (.tmp 39) (.const (.int .i64 0)))]
 [1,3,5,6,8,25,26,29,30,31,40])
 (.cond (.tmp 40) (.exit 5) .skip))
 (.seq
 (.region [.mk (some 9) none (.mv (.const (.int .i64 0)))]
 [1,3,5,6,8,9,25,26,29,30,31])
 (.seq
 (.seq
 (.region
 [.mk (some 41) none (.fld 1 (.tmp 8)),
 .mk (some 42) none (.load false 1 (.tmp 41)),
 .mk (some 43) none (.len false (.tmp 42)),
 .mk (some 44) none (.mv (.const (.int .i64 0)))]
 [1,3,5,6,8,9,25,26,29,30,31,42,43,44])
 (.block 6 (.loop S84_4 [9,44] [1,3,5,6,8,25,26,29,30,31,42,43])))
 (.seq
 (.region
 [.mk (some 66) none (.mv (.tmp 9)),
 .mk (some 67) none
 (.ibin .lss (.tmp 66) (.const (.int .i64 1125899906842624))),
 .mk (some 68) none (.mv (.tmp 67)),
 .mk (some 69) (some (68,true)) (.mv (.tmp 6)),
 .mk (some 70) (some (68,true))
 (.ibin .lss (.tmp 69) (.const (.int .i64 0))),
 .mk (some 71) (some (68,true)) (.mv (.tmp 70)),
 .mk (some 72) (some (71,false)) (.mv (.tmp 9)),
 .mk (some 73) (some (71,false)) (.mv (.tmp 5)),
 .mk (some 74) (some (71,false)) (.ibin .lss (.tmp 72) (.tmp 73)),
 .mk (some 75) (some (68,true))
 (.pick (.tmp 71) (.const (.bool true)) (.tmp 74)),
 .mk (some 76) none (.pick (.tmp 68) (.tmp 75) (.const (.bool false)))]
 [1,3,5,6,8,9,25,26,29,30,31,76])
 (.cond (.tmp 76)
 (.quiet
 [.mk (some 77) none (.mv (.tmp 9)),.mk (some 78) none (.fld 0 (.tmp 8)),
 .mk (some 79) none (.load false 1 (.tmp 78)),
 .mk (some 5) none (.mv (.tmp 77)),.mk (some 6) none (.mv (.tmp 79))]
 [1,3,5,6,25,26,29,30,31])
 .skip))))))
def S84_6 : Stmt :=
 .region
 [.mk (some 80) none (.ibin .add (.tmp 31) (.const (.int .i64 1))),
 .mk (some 31) none (.mv (.tmp 80))]
 [1,3,5,6,25,26,29,30,31]
def S84_7 : Stmt :=
 .seq
 (.region [.mk (some 32) none (.ibin .lss (.tmp 31) (.tmp 30))]
 [1,3,5,6,25,26,29,30,31,32])
 (.seq (.cond (.tmp 32) .skip (.exit 4))
 (.join S84_5 S84_6 [5,6] [1,3,25,26,29,30,31]))
def S84_8 : Stmt :=
 .block 3
 (.seq
 (.region
 [.mk (some 5) none (.mv (.const (.int .i64 (-1)))),
 .mk (some 6) none (.mv (.const (.int .i64 (-1))))]
 [1,3,5,6,25,26])
 (.seq
 (.seq
 (.region
 [.mk (some 28) none (.fld 3 (.tmp 1)),
 .mk (some 29) none (.load false 1 (.tmp 28)),
 .mk (some 30) none (.len false (.tmp 29)),
 .mk (some 31) none (.mv (.const (.int .i64 0)))]
 [1,3,5,6,25,26,29,30,31])
 (.block 4 (.loop S84_7 [5,6,31] [1,3,25,26,29,30])))
 (.seq
 (.region
 [.mk (some 81) none (.mv (.tmp 6)),
 .mk (some 82) none (.ibin .geq (.tmp 81) (.const (.int .i64 0)))]
 [1,3,5,6,25,26,82])
 (.cond (.tmp 82)
 (.region
 [.mk (some 83) none (.mv (.tmp 3)),.mk (some 84) none (.mv (.tmp 6)),
 .mk (some 85) none (.mv (.tmp 5)),
 .mk (some 86) none (.idx 1 (.tmp 83) (.tmp 84)),
 .mk none none (.store 1 (.tmp 86) (.tmp 85))]
 [1,3,25,26])
 .skip))))
def S84_9 : Stmt :=
 .region
 [.mk (some 87) none (.ibin .add (.tmp 26) (.const (.int .i64 1))),
 .mk (some 26) none (.mv (.tmp 87))]
 [1,3,25,26]
def S84_10 : Stmt :=
 .seq
 (.region [.mk (some 27) none (.ibin .lss (.tmp 26) (.tmp 25))] [1,3,25,26,27])
 (.seq (.cond (.tmp 27) .skip (.exit 2)) (.join S84_8 S84_9 [] [1,3,25,26]))
def S84_0 : Stmt :=
 .seq
 (.region
 [.mk (some 1) none (.box true 57 (.tmp 0)),
 .mk (some 2) none (.mv (.const (.slice none 0 0)))]
 [1])
 (.seq
 (.region
 [.mk (some 12) none (.fld 1 (.tmp 1)),.mk (some 13) none (.load false 1 (.tmp 12)),
 .mk (some 14) none (.mk 3 1 8 (.int .i64 0) (.tmp 13) (.tmp 13)),
 .mk (some 3) none (.mv (.tmp 14))]
 [1,3])
 (.seq
 (.seq
 (.region
 [.mk (some 15) none (.mv (.tmp 3)),.mk (some 16) none (.len false (.tmp 15)),
 .mk (some 17) none (.mv (.const (.int .i64 0)))]
 [1,3,16,17])
 (.block 0 (.loop S84_1 [17] [1,3,16])))
 (.seq
 (.seq
 (.region
 [.mk (some 24) none (.fld 1 (.tmp 1)),
 .mk (some 25) none (.load false 1 (.tmp 24)),
 .mk (some 26) none (.mv (.const (.int .i64 0)))]
 [1,3,25,26])
 (.block 2 (.loop S84_10 [26] [1,3,25])))
 (.seq
 (.region
 [.mk (some 88) none (.mv (.tmp 3)),.mk (some 2) none (.mv (.tmp 88))] [2])
 .ret))))
def S84 : FnS := ⟨89,[(2,none)],S84_0⟩
theorem tr84 : trFn Try.prog 84 [1,8,11] [[1],[1,3],[1,3,16,17],[17],[1,3,16],[1,3,16,17,18],[1,3,4,16,17],[1,3,16,17],[1,3,16,17],[1,3,25,26],[26],[1,3,25],[1,3,25,26,27],[],[1,3,25,26],[1,3,5,6,25,26],[1,3,5,6,25,26,29,30,31],[5,6,31],[1,3,25,26,29,30],[1,3,5,6,25,26,29,30,31,32],[5,6],[1,3,25,26,29,30,31],[1,3,5,6,8,25,26,29,30,31],[1,3,5,6,8,25,26,29,30,31,40],[1,3,5,6,8,9,25,26,29,30,31],[1,3,5,6,8,9,25,26,29,30,31,42,43,44],[9,44],[1,3,5,6,8,25,26,29,30,31,42,43],[1,3,5,6,8,9,25,26,29,30,31,42,43,44,45],[9],[1,3,5,6,8,25,26,29,30,31,42,43,44],[1,3,5,6,8,9,11,25,26,29,30,31,42,43,44],[1,3,5,6,8,9,11,25,26,29,30,31,42,43,44,49],[1,3,5,6,8,9,25,26,29,30,31,42,43,44],[1,3,5,6,8,9,11,25,26,29,30,31,42,43,44,57],[1,3,5,6,8,9,25,26,29,30,31,42,43,44],[1,3,5,6,8,9,25,26,29,30,31,42,43,44],[1,3,5,6,8,9,25,26,29,30,31,42,43,44],[1,3,5,6,8,9,25,26,29,30,31,76],[1,3,5,6,25,26,29,30,31],[1,3,5,6,25,26,29,30,31],[1,3,5,6,25,26,82],[1,3,25,26],[1,3,25,26],[2]] = some S84 := by kernel_rfl
end Go.Proofs.Ytniobbepliknmaa.V
/- parlref5.Shortest walked; no condition. -/
namespace Go.Proofs.Ytniobbepliknmaa.V
open Go
set_option linter.unusedVariables false
set_option linter.unusedSimpArgs false
attribute [local go_sem] e_seq e_region e_quiet e_join e_loop e_cond e_block e_exit e_ret e_skip e_fin e_kseq e_snrm e_sret e_sex e_bnrm e_bret e_bex e_rnrm e_rret e_res e_condC e_nil e_g e_mv g_mv e_pick g_pick pickC_eq e_ibin g_ibin ibinC_eq e_sbin g_sbin e_beq g_beq beqC_eq e_nilq g_nilq nilqC_sl nilqC_pt nilqC_mp e_un g_un unC_not unC_neg e_conv g_conv convC_eq e_fld g_fld fldC_ref fldC_ptr e_nilCheck g_nilCheck nilCheckC_ref nilCheckC_ptr nilCheckC_fun e_field g_field fieldC_eq e_len g_len lenC_sl lenC_str e_extract g_extract extractC_eq e_mkFunc e_build g_build e_idiv g_idiv idivC_eq e_ishift g_ishift ishiftC_eq e_idx g_idx e_idxA g_idxA e_load g_load e_loadB g_loadB atB_ref atB_v g_mkFunc loadC_ref loadC_ptr loadB_eq e_slc g_slc e_box boxC_loc boxC_esc e_alloc allocC_loc allocC_esc e_buildS e_store storeC_ref storeC_ptr storeB_eq e_append e_appz e_mk mkC_eq e_call callC_eq e_fn g_fn fnC_eq fnV_min' fnV_max' fnV_rune' e_q g_q e_a e_n g_call g_box g_alloc g_buildS g_store g_append g_mk g_a g_n g_dead e_dead e_callK e_drawn e_tree e_finJ e_tk e_tfin e_tno e_nbt_q e_nbt_qn e_nbt_a e_nbt_an e_nbt_fin e_drawnB e_bxb_nil e_bxb e_stB_none e_stB_some boxSt_store bs_mv bs_pick bs_ibin bs_idiv bs_ishift bs_sbin bs_beq bs_nilq bs_un bs_conv bs_box bs_alloc bs_build bs_buildS bs_load bs_fld bs_nilCheck bs_idx bs_idxA bs_field bs_slc bs_len bs_append bs_appz bs_mk bs_call bs_extract bs_mkFunc bs_fn bs_q bs_a bs_n bs_loadB bs_dead isBox_box e_early_nil e_early_t e_early_f e_nob_nil e_nob_none e_nob_some isBox_dead isBox_v isBox_ref e_dnil e_dk e_ek e_finB vcOps_vc1 e_dcons e_tq e_ekt e_tearly e_talt e_dearly look_nil look_c proj_nil proj_c looks_nil looks_c zip_nil zip_c val_tmp val_const val_func slv_v slv_box slv_ref slot_tmp slot_const slot_func slotL_v slotL_box slotL_ref put_some put_none updBox_c boxSet_box gd_eq slotVals_nil slotVals_c slotVals_b boxV_box boxOn_box slotsOn_nil slotsOn_c slotsOn_b resV_one resV_two vals_nil vals_c allOn_nil allOn_c partOn_nil partOn_c partVals_nil partVals_c fits_nil fits_c fillL_nil fillL_c mkv_one mkv_agg cellsV_agg cellsV_int cellsV_bool cellsV_slice cellsV_string cellsV_pointer cellsV_func cellsV_nilf cellsV_map one'_nil one'_c oc_int oc_bool oc_slice oc_string oc_pointer oc_func oc_nilf oc_map setC_eq iv_add iv_sub iv_mul iv_eql iv_neq iv_lss iv_leq iv_gtr iv_geq iok_add iok_sub iok_mul iok_eql iok_neq iok_lss iok_leq iok_gtr iok_geq pickV_bool args0_nil args0_c bnd_none bnd_some imp_bt imp_bf imp_ebt imp_ebf imp_eb1 imp_np imp_pp beq_tt beq_tf beq_ft beq_ff cond_or cond_and e_round e_meet Int.le_refl Int.toNat_zero decide_true decide_false Bool.or_false Bool.false_or Bool.true_or Bool.or_true Bool.and_false Bool.false_and Bool.bne_false Bool.bne_true beq_iff_eq Int.cast_ofNat_Int not_false_eq_true not_true_eq_false false_and and_false false_implies true_implies true_and and_true Bool.true_and Bool.and_true Bool.not_true Bool.not_false forall_const implies_true List.take_zero List.drop_zero List.take_succ_cons List.drop_succ_cons List.take_nil List.drop_nil List.length_cons List.length_nil List.nil_append List.append_nil List.cons_append Int.toNat_natCast decide_eq_true_eq decide_eq_false_iff_not cond_true cond_false and_self List.getElem?_cons_zero List.getElem?_cons_succ List.set_cons_zero List.set_cons_succ Option.some.injEq exists_eq_left' Nat.zero_add Nat.add_zero Nat.mul_one imp_self true_or or_true or_false false_or Bool.or_eq_true Bool.or_eq_false_iff Bool.and_eq_true Bool.and_eq_false_iff Bool.not_eq_true' Bool.not_eq_false'

def gF (o : List Int) : Int → List Sy → Int
  | n, [] => n
  | n, s :: l => gF o (if s.t then n + 1 else if o.getD s.n.toNat (-1) < 0 then 1125899906842624 else n + o.getD s.n.toNat (-1)) l
theorem gF_big {o : List Int} : ∀ (l : List Sy) (n : Int), 1125899906842624 ≤ n → 1125899906842624 ≤ gF o n l
  | [], n, h => h
  | s :: l, n, h => by
    unfold gF
    refine gF_big l _ ?_
    split
    · omega
    · split <;> omega
theorem gF_short {o : List Int} : ∀ (l : List Sy) (n : Int), 0 ≤ n → (0 ≤ shortF o n l ∧ gF o n l = shortF o n l) ∨ (shortF o n l < 0 ∧ 1125899906842624 ≤ gF o n l)
  | [], n, h => .inl ⟨h, rfl⟩
  | s :: l, n, h => by
    unfold gF shortF
    split
    · exact gF_short l (n + 1) (by omega)
    · split
      · exact .inr ⟨by omega, gF_big l _ (by omega)⟩
      · exact gF_short l _ (by omega)
def BestI (g : Gr) (o : List Int) (rs : List Ru) (best who : Int) : Prop :=
  (who = -1 ∧ ∀ r ∈ rs, ¬ CanR g o r) ∨ (∃ r ∈ rs, CanR g o r ∧ who = r.l ∧ best = shortF o 0 r.r ∧ ∀ r' ∈ rs, CanR g o r' → best ≤ shortF o 0 r'.r)
theorem BestI.skip {g : Gr} {o : List Int} {rs : List Ru} {best who : Int} (h : BestI g o rs best who) {r : Ru} (hr : CanR g o r → who ≠ -1 ∧ best ≤ shortF o 0 r.r) : BestI g o (rs ++ [r]) best who := by
  rcases h with ⟨h1, h2⟩ | ⟨x, h1, h2, h3, h4, h5⟩
  · refine .inl ⟨h1, fun r' hr' hc => ?_⟩
    rcases List.mem_append.1 hr' with w | w
    · exact h2 r' w hc
    · simp only [List.mem_singleton] at w
      subst w
      exact (hr hc).1 h1
  · refine .inr ⟨x, by simp [h1], h2, h3, h4, fun r' hr' hc => ?_⟩
    rcases List.mem_append.1 hr' with w | w
    · exact h5 r' w hc
    · simp only [List.mem_singleton] at w
      subst w
      exact (hr hc).2
theorem BestI.take {g : Gr} {o : List Int} {rs : List Ru} {best who : Int} (h : BestI g o rs best who) {r : Ru} (hr : CanR g o r) (hb : who < 0 ∨ shortF o 0 r.r < best) (V : VG g) : BestI g o (rs ++ [r]) (shortF o 0 r.r) r.l := by
  refine .inr ⟨r, by simp, hr, rfl, rfl, fun r' hr' hc => ?_⟩
  rcases List.mem_append.1 hr' with w | w
  · rcases h with ⟨h1, h2⟩ | ⟨x, h1, h2, h3, h4, h5⟩
    · exact absurd hc (h2 r' w)
    · have := h5 r' w hc
      have hl := V.left x h2.1
      omega
  · simp only [List.mem_singleton] at w
    subst w
    exact Int.le_refl _
theorem ref_shortest {Γr : Ctx} {g : Gr} (V : VG g) {R : Option Addr} {cR : Nat} (hx : SlOk (lk Γr) R cR g.rs) :
    Ret Try.prog 84 [.agg #[.int .i64 g.ts, .int .i64 g.ns, .int .i64 g.st, .slice R g.rs.length cR]] Γr [] (fun v Γ => ∃ go A c o, Γ = [go] ∧ v = .slice A o.length c ∧ SlOk (lk [go]) A c o ∧ LeaO g o) := by
  generalize hR : (fun (v : Value) (Γ : Ctx) => ∃ go A c o, _) = R'
  refine ret_of_vc tr84 (Nat.le_of_ble_eq_true rfl) ?_
  simp -implicitDefEqProofs only [S84, S84_0, go_sem, Nat.reduceBEq, Nat.reduceAdd, Nat.reduceSub, Nat.reduceMul, Nat.reduceLeDiff, reduceCtorEq, ↓reduceIte, Int.reduceLT, Int.reduceLE, Int.reduceEq, Int.reduceNe]
  have hns := V.ns
  have hvl := V.len
  have hsh := hx.short
  obtain ⟨N, hN⟩ : ∃ N : Nat, g.ns = N := ⟨g.ns.toNat, by omega⟩
  have hN' : g.ns.toNat = N := by omega
  rw [hN]
  intro bg
  refine ⟨by omega, by omega, fun bo => ?_⟩
  refine s_loop (fun f vs Γ => ∃ (i : Nat) (go : PH), vs = [.v true (.int .i64 (i : Int))] ∧ Γ = [go] ∧ i + f = N ∧ Arr go bo 3 (prow (-1 : Int) 0 N i)) N
    (Up.here ⟨0, _, rfl, rfl, by omega, by rw [prow_zero]; exact Arr.made (0 : Int) bo 3 N⟩) ?_
  rintro f vs Γ ⟨i, go, rfl, rfl, hif, hA⟩
  simp -implicitDefEqProofs only [S84_1, go_sem, Nat.reduceBEq, Nat.reduceAdd, Nat.reduceSub, Nat.reduceMul, Nat.reduceLeDiff, reduceCtorEq, ↓reduceIte, Int.reduceLT, Int.reduceLE, Int.reduceEq, Int.reduceNe]
  refine ⟨fun hlt => ?_, fun hge => ?_⟩
  · have hi : i < N := by omega
    have hpl := prow_len (-1 : Int) 0 (n := N) (j := i) (by omega)
    refine s_idx rfl (by omega) (by omega) ?_
    simp -implicitDefEqProofs only [go_sem, Nat.reduceBEq, Nat.reduceAdd, Nat.reduceSub, Nat.reduceMul, Nat.reduceLeDiff, reduceCtorEq, ↓reduceIte, Int.reduceLT, Int.reduceLE, Int.reduceEq, Int.reduceNe]
    refine s_storeA (ix := 0) (α := Int) (-1) rfl hA (i := i) (by omega) ?_
    intro g2 hA2 _
    rw [prow_set (-1 : Int) 0 hi] at hA2
    simp -implicitDefEqProofs only [go_sem, Nat.reduceBEq, Nat.reduceAdd, Nat.reduceSub, Nat.reduceMul, Nat.reduceLeDiff, reduceCtorEq, ↓reduceIte, Int.reduceLT, Int.reduceLE, Int.reduceEq, Int.reduceNe]
    simp (disch := omega) only [wrap_id]
    exact ⟨f - 1, by omega, Up.here ⟨i + 1, g2, rfl, rfl, by omega, hA2⟩⟩
  have hie : i = N := by omega
  rw [hie, prow_all] at hA
  have hI0 : LeaI g (List.replicate N (-1 : Int)) ∧ LeaE g (List.replicate N (-1 : Int)) := by
    have hm : ∀ a : Nat, (List.replicate N (-1 : Int)).getD a (-1) = -1 := fun a => by
      simp only [List.getD_eq_getElem?_getD, List.getElem?_replicate]
      split <;> rfl
    exact ⟨⟨by simp [hN'], fun x hx => by rw [List.eq_of_mem_replicate hx]; exact ⟨by omega, Int.le_trans (by decide) (Int.natCast_nonneg _)⟩, fun a q => by rw [hm] at q; omega⟩, fun a k q => by rw [hm] at q; omega⟩
  generalize List.replicate N (-1 : Int) = o at hA hI0
  refine s_loop (fun f vs Γ => ∃ (go : PH) (o : List Int) (k : Nat), vs = [.v true (.int .i64 (k : Int))] ∧ Γ = [go] ∧ k + f = N ∧ Arr go bo 3 o ∧ LeaI g o ∧ LeaE g o ∧ (k ≤ setL o ∨ ∀ r, ¬ CanR g o r)) N
    (Up.here ⟨go, o, 0, rfl, rfl, by omega, hA, hI0.1, hI0.2, .inl (Nat.zero_le _)⟩) ?_
  clear hA hI0 hif hge
  rintro f2 vs Γ ⟨go, o, k, rfl, rfl, hkf, hA, hI, hE, hk⟩
  have hol := hI.len
  have hle := hI.set_le V
  simp -implicitDefEqProofs only [S84_10, go_sem, Nat.reduceBEq, Nat.reduceAdd, Nat.reduceSub, Nat.reduceMul, Nat.reduceLeDiff, reduceCtorEq, ↓reduceIte, Int.reduceLT, Int.reduceLE, Int.reduceEq, Int.reduceNe]
  refine ⟨fun hlt => ?_, fun hge => ?_⟩
  · refine s_split ?_
    simp -implicitDefEqProofs only [S84_8, go_sem, Nat.reduceBEq, Nat.reduceAdd, Nat.reduceSub, Nat.reduceMul, Nat.reduceLeDiff, reduceCtorEq, ↓reduceIte, Int.reduceLT, Int.reduceLE, Int.reduceEq, Int.reduceNe]
    refine s_loop (fun f1 vs Γ => ∃ (best who : Int) (i : Nat), vs = [.v true (.int .i64 best), .v true (.int .i64 who), .v true (.int .i64 (i : Int))] ∧ Γ = [go] ∧ i + f1 = g.rs.length ∧ BestI g o (g.rs.take i) best who) g.rs.length
      (Up.here ⟨-1, -1, 0, rfl, rfl, by omega, .inl ⟨rfl, fun r hr => by simp at hr⟩⟩) ?_
    rintro f1 vs Γ ⟨best, who, i, rfl, rfl, hif, hB⟩
    simp -implicitDefEqProofs only [S84_7, go_sem, Nat.reduceBEq, Nat.reduceAdd, Nat.reduceSub, Nat.reduceMul, Nat.reduceLeDiff, reduceCtorEq, ↓reduceIte, Int.reduceLT, Int.reduceLE, Int.reduceEq, Int.reduceNe]
    refine ⟨fun hlt => ?_, fun hge => ?_⟩
    · have hi : i < g.rs.length := by omega
      have hmem := List.getElem_mem hi
      have htk : g.rs.take (i + 1) = g.rs.take i ++ [g.rs[i]] := List.take_succ_eq_append_getElem hi
      have hleft := V.left _ hmem
      have hr4 := V.right _ hmem
      have hsym := V.sym _ hmem
      obtain ⟨b0, o0', h0', A1, c1, hr1, hcr⟩ := hx.ru hi
      generalize g.rs[i] = r at *
      obtain ⟨a, ha⟩ : ∃ a : Nat, r.l = a := ⟨r.l.toNat, by omega⟩
      have haN : a < o.length := by omega
      have hcell : ∀ Γ : Ctx, go ∈ Γ → Cells Γ bo a [.int .i64 o[a]] := fun Γ hg => hA.cell (i := a) haN hg
      have hg : o.getD r.l.toNat (-1) = o[a] := by rw [ha, Int.toNat_natCast]; simp [List.getD_eq_getElem?_getD, haN]
      refine s_split ?_
      simp -implicitDefEqProofs only [S84_5, go_sem, Nat.reduceBEq, Nat.reduceAdd, Nat.reduceSub, Nat.reduceMul, Nat.reduceLeDiff, reduceCtorEq, ↓reduceIte, Int.reduceLT, Int.reduceLE, Int.reduceEq, Int.reduceNe]
      refine s_idx h0' (by omega) (by omega) ?_
      simp -implicitDefEqProofs only [go_sem, Nat.reduceBEq, Nat.reduceAdd, Nat.reduceSub, Nat.reduceMul, Nat.reduceLeDiff, reduceCtorEq, ↓reduceIte, Int.reduceLT, Int.reduceLE, Int.reduceEq, Int.reduceNe]
      refine s_ld0 (by simpa using hcr _ (lk_r [go] _)) (by simp) (by simp) ?_
      simp -implicitDefEqProofs only [go_sem, Nat.reduceBEq, Nat.reduceAdd, Nat.reduceSub, Nat.reduceMul, Nat.reduceLeDiff, reduceCtorEq, ↓reduceIte, Int.reduceLT, Int.reduceLE, Int.reduceEq, Int.reduceNe]
      intro bx
      rw [ha]
      refine s_idx rfl (by omega) (by omega) ?_
      simp -implicitDefEqProofs only [go_sem, Nat.reduceBEq, Nat.reduceAdd, Nat.reduceSub, Nat.reduceMul, Nat.reduceLeDiff, reduceCtorEq, ↓reduceIte, Int.reduceLT, Int.reduceLE, Int.reduceEq, Int.reduceNe]
      refine s_ld0 (by simpa using hcell _ (by simp)) (by simp) (by simp) ?_
      simp -implicitDefEqProofs only [go_sem, Nat.reduceBEq, Nat.reduceAdd, Nat.reduceSub, Nat.reduceMul, Nat.reduceLeDiff, reduceCtorEq, ↓reduceIte, Int.reduceLT, Int.reduceLE, Int.reduceEq, Int.reduceNe]
      refine ⟨fun hset => ?_, fun huns => ?_⟩
      · refine Up.here ?_
        simp -implicitDefEqProofs only [S84_6, go_sem, Nat.reduceBEq, Nat.reduceAdd, Nat.reduceSub, Nat.reduceMul, Nat.reduceLeDiff, reduceCtorEq, ↓reduceIte, Int.reduceLT, Int.reduceLE, Int.reduceEq, Int.reduceNe]
        simp (disch := omega) only [wrap_id]
        refine ⟨f1 - 1, by omega, Up.here ⟨best, who, i + 1, rfl, rfl, by omega, ?_⟩⟩
        rw [htk]
        exact hB.skip fun hc => by have := hc.2.1; rw [hg] at this; omega
      · refine s_loop (fun f3 vs Γ => ∃ (x : Int) (j : Nat), vs = [.v true (.int .i64 x), .v true (.int .i64 (j : Int))] ∧ Γ = [go] ∧ j + f3 = r.r.length ∧ 0 ≤ x ∧ x ≤ 1125899906842624 + j * 10000000 ∧ gF o 0 r.r = gF o x (r.r.drop j)) r.r.length
          (Up.here ⟨0, 0, rfl, rfl, by omega, by omega, by omega, rfl⟩) ?_
        rintro f3 vs Γ ⟨x, j, rfl, rfl, hjf, hx0, hx1, hgf⟩
        simp -implicitDefEqProofs only [S84_4, go_sem, Nat.reduceBEq, Nat.reduceAdd, Nat.reduceSub, Nat.reduceMul, Nat.reduceLeDiff, reduceCtorEq, ↓reduceIte, Int.reduceLT, Int.reduceLE, Int.reduceEq, Int.reduceNe]
        refine ⟨fun hlt => ?_, fun hge => ?_⟩
        · have hj : j < r.r.length := by omega
          have hsi := hsym _ (List.getElem_mem hj)
          have hd : r.r.drop j = r.r[j] :: r.r.drop (j + 1) := List.drop_eq_getElem_cons hj
          obtain ⟨b3, o3, h3, hc3⟩ := hr1.sy hj
          rw [hd] at hgf
          generalize r.r[j] = s at *
          obtain ⟨st, sn⟩ := s
          refine s_split ?_
          simp -implicitDefEqProofs only [S84_2, go_sem, Nat.reduceBEq, Nat.reduceAdd, Nat.reduceSub, Nat.reduceMul, Nat.reduceLeDiff, reduceCtorEq, ↓reduceIte, Int.reduceLT, Int.reduceLE, Int.reduceEq, Int.reduceNe]
          refine s_idx h3 (by omega) (by omega) ?_
          simp -implicitDefEqProofs only [go_sem, Nat.reduceBEq, Nat.reduceAdd, Nat.reduceSub, Nat.reduceMul, Nat.reduceLeDiff, reduceCtorEq, ↓reduceIte, Int.reduceLT, Int.reduceLE, Int.reduceEq, Int.reduceNe]
          refine s_ld0 (by simpa using hc3 _ (lk_r [go] _)) (by simp) (by simp) ?_
          cases st with
          | true =>
            simp only [gF, if_true] at hgf
            simp -implicitDefEqProofs only [S84_3, go_sem, Nat.reduceBEq, Nat.reduceAdd, Nat.reduceSub, Nat.reduceMul, Nat.reduceLeDiff, reduceCtorEq, ↓reduceIte, Int.reduceLT, Int.reduceLE, Int.reduceEq, Int.reduceNe]
            simp (disch := omega) only [wrap_id]
            exact Up.here ⟨f3 - 1, by omega, Up.here ⟨x + 1, j + 1, rfl, rfl, by omega, by omega, by omega, hgf⟩⟩
          | false =>
            have hsi : 0 ≤ sn ∧ sn < g.ns := ⟨hsi.1, hsi.2.2 rfl⟩
            obtain ⟨c, rfl⟩ : ∃ c : Nat, sn = c := ⟨sn.toNat, by omega⟩
            have hcN : c < o.length := by omega
            have hcellc : ∀ Γ : Ctx, go ∈ Γ → Cells Γ bo c [.int .i64 o[c]] := fun Γ hg => hA.cell (i := c) hcN hg
            have hoc := hI.low _ (List.getElem_mem hcN)
            have hgc : o.getD (c : Int).toNat (-1) = o[c] := by simp [List.getD_eq_getElem?_getD, hcN]
            simp only [gF, Bool.false_eq_true, if_false] at hgf
            rw [hgc] at hgf
            simp -implicitDefEqProofs only [go_sem, Nat.reduceBEq, Nat.reduceAdd, Nat.reduceSub, Nat.reduceMul, Nat.reduceLeDiff, reduceCtorEq, ↓reduceIte, Int.reduceLT, Int.reduceLE, Int.reduceEq, Int.reduceNe]
            intro bs
            refine s_idx rfl (by omega) (by omega) ?_
            simp -implicitDefEqProofs only [go_sem, Nat.reduceBEq, Nat.reduceAdd, Nat.reduceSub, Nat.reduceMul, Nat.reduceLeDiff, reduceCtorEq, ↓reduceIte, Int.reduceLT, Int.reduceLE, Int.reduceEq, Int.reduceNe]
            refine s_ld0 (by simpa using hcellc _ (by simp)) (by simp) (by simp) ?_
            simp -implicitDefEqProofs only [go_sem, Nat.reduceBEq, Nat.reduceAdd, Nat.reduceSub, Nat.reduceMul, Nat.reduceLeDiff, reduceCtorEq, ↓reduceIte, Int.reduceLT, Int.reduceLE, Int.reduceEq, Int.reduceNe]
            refine ⟨fun hneg => ?_, fun hpos => ?_⟩
            · rw [if_pos hneg] at hgf
              refine Up.here ?_
              simp -implicitDefEqProofs only [S84_3, go_sem, Nat.reduceBEq, Nat.reduceAdd, Nat.reduceSub, Nat.reduceMul, Nat.reduceLeDiff, reduceCtorEq, ↓reduceIte, Int.reduceLT, Int.reduceLE, Int.reduceEq, Int.reduceNe]
              simp (disch := omega) only [wrap_id]
              exact ⟨f3 - 1, by omega, Up.here ⟨_, j + 1, rfl, rfl, by omega, by omega, by omega, hgf⟩⟩
            · rw [if_neg hpos] at hgf
              refine s_idx rfl (by omega) (by omega) ?_
              simp -implicitDefEqProofs only [go_sem, Nat.reduceBEq, Nat.reduceAdd, Nat.reduceSub, Nat.reduceMul, Nat.reduceLeDiff, reduceCtorEq, ↓reduceIte, Int.reduceLT, Int.reduceLE, Int.reduceEq, Int.reduceNe]
              refine s_ld0 (by simpa using hcellc _ (by simp)) (by simp) (by simp) ?_
              simp -implicitDefEqProofs only [S84_3, go_sem, Nat.reduceBEq, Nat.reduceAdd, Nat.reduceSub, Nat.reduceMul, Nat.reduceLeDiff, reduceCtorEq, ↓reduceIte, Int.reduceLT, Int.reduceLE, Int.reduceEq, Int.reduceNe]
              simp (disch := omega) only [wrap_id]
              exact Up.here ⟨f3 - 1, by omega, Up.here ⟨x + o[c], j + 1, rfl, rfl, by omega, by omega, by omega, hgf⟩⟩
        · have hje : j = r.r.length := by omega
          subst hje
          rw [List.drop_length] at hgf
          have hgf : gF o 0 r.r = x := hgf
          have hcan : CanR g o r ↔ 0 ≤ shortF o 0 r.r := ⟨fun h => h.2.2, fun h => ⟨hmem, by rw [hg]; omega, h⟩⟩
          have hbnd := short_le (o := o) (B := 1048576) (by omega) (fun y hy => by have := (hI.low y hy).2; omega) r.r 0 (by omega)
          refine ⟨fun h1 h2 => ⟨h1, h2⟩, fun h => Up.here ?_, fun h => Up.here ?_⟩
          · simp -implicitDefEqProofs only [S84_6, go_sem, Nat.reduceBEq, Nat.reduceAdd, Nat.reduceSub, Nat.reduceMul, Nat.reduceLeDiff, reduceCtorEq, ↓reduceIte, Int.reduceLT, Int.reduceLE, Int.reduceEq, Int.reduceNe]
            simp (disch := omega) only [wrap_id]
            refine ⟨f1 - 1, by omega, Up.here ⟨x, (a : Int), i + 1, rfl, rfl, by omega, ?_⟩⟩
            rw [htk]
            rcases gF_short (o := o) r.r 0 (by omega) with ⟨q1, q2⟩ | ⟨q1, q2⟩
            · have hxs : x = shortF o 0 r.r := by omega
              have := hB.take (hcan.2 q1) (by omega) V
              rw [← hxs, ha] at this
              exact this
            · omega
          · simp -implicitDefEqProofs only [S84_6, go_sem, Nat.reduceBEq, Nat.reduceAdd, Nat.reduceSub, Nat.reduceMul, Nat.reduceLeDiff, reduceCtorEq, ↓reduceIte, Int.reduceLT, Int.reduceLE, Int.reduceEq, Int.reduceNe]
            simp (disch := omega) only [wrap_id]
            refine ⟨f1 - 1, by omega, Up.here ⟨best, who, i + 1, rfl, rfl, by omega, ?_⟩⟩
            rw [htk]
            refine hB.skip fun hc => ?_
            rcases gF_short (o := o) r.r 0 (by omega) with ⟨q1, q2⟩ | ⟨q1, q2⟩
            · trace_state
              constructor <;> omega
            · have := hcan.1 hc
              omega
    · have hie : i = g.rs.length := by omega
      rw [hie, List.take_length] at hB
      refine ⟨fun hw => ?_, fun hw => ?_⟩
      · rcases hB with ⟨e, _⟩ | ⟨r, hr, hC, hwl, hbest, hmin⟩
        · omega
        subst hbest
        obtain ⟨a, ha⟩ : ∃ a : Nat, r.l = a := ⟨r.l.toNat, by omega⟩
        have hleft := V.left r hr
        have haN : a < o.length := by omega
        have hneg : o[a] < 0 := by
          have := hC.2.1
          rw [ha, Int.toNat_natCast] at this
          simpa [List.getD_eq_getElem?_getD, haN] using this
        obtain ⟨hI2, _⟩ := hI.put V hr ha haN hC.2.2 (.inl hneg)
        obtain ⟨_, hE2⟩ := settle V hI.snd hE hC ha haN (fun r' h' => hmin r' h'.1 h')
        have hset := setL_set haN hC.2.2
        rw [if_pos hneg] at hset
        rw [hwl, ha]
        refine s_idx rfl (by omega) (by omega) ?_
        simp -implicitDefEqProofs only [go_sem, Nat.reduceBEq, Nat.reduceAdd, Nat.reduceSub, Nat.reduceMul, Nat.reduceLeDiff, reduceCtorEq, ↓reduceIte, Int.reduceLT, Int.reduceLE, Int.reduceEq, Int.reduceNe]
        refine s_storeA (ix := 0) (α := Int) (shortF o 0 r.r) rfl hA (i := a) haN ?_
        intro g2 hA2 _
        simp -implicitDefEqProofs only [S84_9, go_sem, Nat.reduceBEq, Nat.reduceAdd, Nat.reduceSub, Nat.reduceMul, Nat.reduceLeDiff, reduceCtorEq, ↓reduceIte, Int.reduceLT, Int.reduceLE, Int.reduceEq, Int.reduceNe]
        simp (disch := omega) only [wrap_id]
        refine Up.here ⟨f2 - 1, by omega, Up.here ⟨g2, _, k + 1, rfl, rfl, by omega, hA2, hI2, hE2, .inl ?_⟩⟩
        rcases hk with q | q
        · omega
        · exact absurd hC (q r)
      · rcases hB with ⟨_, hno⟩ | ⟨r, hr, hC, hwl, _⟩
        · simp -implicitDefEqProofs only [S84_9, go_sem, Nat.reduceBEq, Nat.reduceAdd, Nat.reduceSub, Nat.reduceMul, Nat.reduceLeDiff, reduceCtorEq, ↓reduceIte, Int.reduceLT, Int.reduceLE, Int.reduceEq, Int.reduceNe]
          simp (disch := omega) only [wrap_id]
          exact Up.here ⟨f2 - 1, by omega, Up.here ⟨go, o, k + 1, rfl, rfl, by omega, hA, hI, hE, .inr fun r h => hno r h.1 h⟩⟩
        · have := V.left r hr
          omega
  · have hke : k = N := by omega
    refine Up.here ?_
    subst hR
    have hSo := Arr.slok (g := go) (b := bo) (T := 3) hA (Mem.le.refl _) (Nat.le_refl _) (by unfold maxLen; omega) (by omega)
    refine ⟨go, some ⟨bo, 0, none⟩, o.length, o, rfl, by rw [show o.length = N by omega], hSo, ?_⟩
    rcases hk with q | q
    · refine all_settled V hol hI.snd hE fun x hx => ?_
      have h1 : setL o = o.length := Nat.le_antisymm List.countP_le_length (by omega)
      have := List.countP_eq_length.1 h1 x hx
      simpa using this
    · exact none_left V hol (fun x hx => (hI.low x hx).1) hI.snd hE q
end Go.Proofs.Ytniobbepliknmaa.V
/- The text of slices.Equal[[]int,int] as a statement (slots: 0 s1, 1 s2, 2 s1, 3 s2, 5 i); no condition. -/
namespace Go.Proofs.Ytniobbepliknmaa.V
open Go
def S28_1 : Stmt :=
 .seq
 (.region [.mk (some 14) none (.ibin .lss (.tmp 13) (.tmp 12))] [0,1,12,13,14])
 (.seq (.cond (.tmp 14) .skip (.exit 0))
 (.seq
 (.block 1
 (.seq
 (.region
 [.mk (some 15) none (.mv (.tmp 13)),.mk (some 5) none (.mv (.tmp 15))]
 [0,1,5,12,13])
 (.seq
 (.quiet
 [.mk (some 16) none (.mv (.tmp 0)),.mk (some 17) none (.mv (.tmp 5)),
 .mk (some 18) none (.idx 1 (.tmp 16) (.tmp 17)),
 .mk (some 19) none (.load false 1 (.tmp 18)),
 .mk (some 20) none (.mv (.tmp 1)),.mk (some 21) none (.mv (.tmp 5)),
 .mk (some 22) none (.idx 1 (.tmp 20) (.tmp 21)),
 .mk (some 23) none (.load false 1 (.tmp 22)),
 .mk (some 24) none (.ibin .neq (.tmp 19) (.tmp 23))]
 [0,1,12,13,24])
 (.cond (.tmp 24)
 (.seq (.region [.mk (some 4) none (.mv (.const (.bool false)))] [4]) .ret)
 .skip))))
 (.region
 [.mk (some 25) none (.ibin .add (.tmp 13) (.const (.int .i64 1))),
 .mk (some 13) none (.mv (.tmp 25))]
 [0,1,12,13])))
def S28_0 : Stmt :=
 .seq (.region [.mk (some 4) none (.mv (.const (.bool false)))] [0,1])
 (.seq
 (.seq
 (.region
 [.mk (some 6) none (.mv (.tmp 0)),.mk (some 7) none (.len false (.tmp 6)),
 .mk (some 8) none (.mv (.tmp 1)),.mk (some 9) none (.len false (.tmp 8)),
 .mk (some 10) none (.ibin .neq (.tmp 7) (.tmp 9))]
 [0,1,10])
 (.cond (.tmp 10)
 (.seq (.region [.mk (some 4) none (.mv (.const (.bool false)))] [4]) .ret)
 .skip))
 (.seq
 (.seq
 (.region
 [.mk (some 11) none (.mv (.tmp 0)),.mk (some 12) none (.len false (.tmp 11)),
 .mk (some 13) none (.mv (.const (.int .i64 0)))]
 [0,1,12,13])
 (.block 0 (.loop S28_1 [13] [0,1,12])))
 (.seq (.region [.mk (some 4) none (.mv (.const (.bool true)))] [4]) .ret)))
def S28 : FnS := ⟨26,[(4,none)],S28_0⟩
theorem tr28 : trFn Try.prog 28 [] [[0,1],[0,1,10],[4],[0,1,12,13],[13],[0,1,12],[0,1,12,13,14],[0,1,5,12,13],[0,1,12,13,24],[4],[0,1,12,13],[4]] = some S28 := by kernel_rfl
end Go.Proofs.Ytniobbepliknmaa.V
/- Orders by coins: slices.Equal, slices.Delete and draw.Order walked; no condition. -/
namespace Go.Proofs.Ytniobbepliknmaa.V
open Go
set_option linter.unusedVariables false
set_option linter.unusedSimpArgs false
attribute [local go_sem] e_seq e_region e_quiet e_join e_loop e_cond e_block e_exit e_ret e_skip e_fin e_kseq e_snrm e_sret e_sex e_bnrm e_bret e_bex e_rnrm e_rret e_res e_condC e_nil e_g e_mv g_mv e_pick g_pick pickC_eq e_ibin g_ibin ibinC_eq e_sbin g_sbin e_beq g_beq beqC_eq e_nilq g_nilq nilqC_sl nilqC_pt nilqC_mp e_un g_un unC_not unC_neg e_conv g_conv convC_eq e_fld g_fld fldC_ref fldC_ptr e_nilCheck g_nilCheck nilCheckC_ref nilCheckC_ptr nilCheckC_fun e_field g_field fieldC_eq e_len g_len lenC_sl lenC_str e_extract g_extract extractC_eq e_mkFunc e_build g_build e_idiv g_idiv idivC_eq e_ishift g_ishift ishiftC_eq e_idx g_idx e_idxA g_idxA e_load g_load e_loadB g_loadB atB_ref atB_v g_mkFunc loadC_ref loadC_ptr loadB_eq e_slc g_slc e_box boxC_loc boxC_esc e_alloc allocC_loc allocC_esc e_buildS e_store storeC_ref storeC_ptr storeB_eq e_append e_appz e_mk mkC_eq e_call callC_eq e_fn g_fn fnC_eq fnV_min' fnV_max' fnV_rune' e_q g_q e_a e_n g_call g_box g_alloc g_buildS g_store g_append g_mk g_a g_n g_dead e_dead e_callK e_drawn e_tree e_finJ e_tk e_tfin e_tno e_nbt_q e_nbt_qn e_nbt_a e_nbt_an e_nbt_fin e_drawnB e_bxb_nil e_bxb e_stB_none e_stB_some boxSt_store bs_mv bs_pick bs_ibin bs_idiv bs_ishift bs_sbin bs_beq bs_nilq bs_un bs_conv bs_box bs_alloc bs_build bs_buildS bs_load bs_fld bs_nilCheck bs_idx bs_idxA bs_field bs_slc bs_len bs_append bs_appz bs_mk bs_call bs_extract bs_mkFunc bs_fn bs_q bs_a bs_n bs_loadB bs_dead isBox_box e_early_nil e_early_t e_early_f e_nob_nil e_nob_none e_nob_some isBox_dead isBox_v isBox_ref e_dnil e_dk e_ek e_finB vcOps_vc1 e_dcons e_tq e_ekt e_tearly e_talt e_dearly look_nil look_c proj_nil proj_c looks_nil looks_c zip_nil zip_c val_tmp val_const val_func slv_v slv_box slv_ref slot_tmp slot_const slot_func slotL_v slotL_box slotL_ref put_some put_none updBox_c boxSet_box gd_eq slotVals_nil slotVals_c slotVals_b boxV_box boxOn_box slotsOn_nil slotsOn_c slotsOn_b resV_one resV_two vals_nil vals_c allOn_nil allOn_c partOn_nil partOn_c partVals_nil partVals_c fits_nil fits_c fillL_nil fillL_c mkv_one mkv_agg cellsV_agg cellsV_int cellsV_bool cellsV_slice cellsV_string cellsV_pointer cellsV_func cellsV_nilf cellsV_map one'_nil one'_c oc_int oc_bool oc_slice oc_string oc_pointer oc_func oc_nilf oc_map setC_eq iv_add iv_sub iv_mul iv_eql iv_neq iv_lss iv_leq iv_gtr iv_geq iok_add iok_sub iok_mul iok_eql iok_neq iok_lss iok_leq iok_gtr iok_geq pickV_bool args0_nil args0_c bnd_none bnd_some imp_bt imp_bf imp_ebt imp_ebf imp_eb1 imp_np imp_pp beq_tt beq_tf beq_ft beq_ff cond_or cond_and e_round e_meet Int.le_refl Int.toNat_zero decide_true decide_false Bool.or_false Bool.false_or Bool.true_or Bool.or_true Bool.and_false Bool.false_and Bool.bne_false Bool.bne_true beq_iff_eq Int.cast_ofNat_Int not_false_eq_true not_true_eq_false false_and and_false false_implies true_implies true_and and_true Bool.true_and Bool.and_true Bool.not_true Bool.not_false forall_const implies_true List.take_zero List.drop_zero List.take_succ_cons List.drop_succ_cons List.take_nil List.drop_nil List.length_cons List.length_nil List.nil_append List.append_nil List.cons_append Int.toNat_natCast decide_eq_true_eq decide_eq_false_iff_not cond_true cond_false and_self List.getElem?_cons_zero List.getElem?_cons_succ List.set_cons_zero List.set_cons_succ Option.some.injEq exists_eq_left' Nat.zero_add Nat.add_zero Nat.mul_one imp_self true_or or_true or_false false_or Bool.or_eq_true Bool.or_eq_false_iff Bool.and_eq_true Bool.and_eq_false_iff Bool.not_eq_true' Bool.not_eq_false'

theorem take_eq_succ {α : Type} {xs ys : List α} {k : Nat} (hk : k < xs.length) (hk' : k < ys.length) (h : xs.take k = ys.take k) (e : xs[k] = ys[k]) : xs.take (k + 1) = ys.take (k + 1) := by
  rw [List.take_succ_eq_append_getElem hk, List.take_succ_eq_append_getElem hk', h, e]

theorem slices_equal {Γr : Ctx} {A B : Option Addr} {c d : Nat} {xs ys : List Int} (hx : SlOk (lk Γr) A c xs) (hy : SlOk (lk Γr) B d ys) :
    Ret Try.prog 28 [.slice A xs.length c, .slice B ys.length d] Γr [] (fun v Γ => Γ = [] ∧ v = .bool (decide (xs = ys))) := by
  generalize hR : (fun v Γ => Γ = [] ∧ v = _) = R
  refine ret_of_vc tr28 (Nat.le_of_ble_eq_true rfl) ?_
  have h1 := hx.short
  have h2 := hy.short
  simp only [S28, S28_0, go_sem, Nat.reduceBEq, Nat.reduceAdd, Nat.reduceSub, Nat.reduceMul, Nat.reduceLeDiff, reduceCtorEq, ↓reduceIte, Int.reduceLT, Int.reduceLE, Int.reduceEq, Int.reduceNe]
  refine ⟨fun hne => Up.here ?_, fun heq => ?_⟩
  · subst hR
    refine ⟨rfl, ?_⟩
    have : xs ≠ ys := fun e => by subst e; exact hne rfl
    simp [this]
  have hl : xs.length = ys.length := by omega
  refine s_loop (fun f vs Γ => Γ = [] ∧ ∃ k : Nat, vs = [.v true (.int .i64 k)] ∧ k + f = xs.length ∧ xs.take k = ys.take k) xs.length (Up.here ⟨rfl, 0, rfl, by omega, by simp⟩) ?_
  rintro f vs Γ ⟨rfl, k, rfl, hkf, htk⟩
  simp only [S28_1, go_sem, Nat.reduceBEq, Nat.reduceAdd, Nat.reduceSub, Nat.reduceMul, Nat.reduceLeDiff, reduceCtorEq, ↓reduceIte, Int.reduceLT, Int.reduceLE, Int.reduceEq, Int.reduceNe]
  refine ⟨fun hlt => ?_, fun hge => ?_⟩
  · have hk : k < xs.length := by omega
    have hk' : k < ys.length := by omega
    obtain ⟨b, o, hA, hc1⟩ := hx.int hk
    obtain ⟨b', o', hB, hc2⟩ := hy.int hk'
    refine s_idx hA (by omega) (by omega) ?_
    simp only [go_sem, Nat.reduceBEq, Nat.reduceAdd, Nat.reduceSub, Nat.reduceMul, Nat.reduceLeDiff, reduceCtorEq, ↓reduceIte, Int.reduceLT, Int.reduceLE, Int.reduceEq, Int.reduceNe]
    refine s_ld0 (hc1 _ (Mem.le.refl _)) (by simp) (by simp) ?_
    simp only [go_sem, Nat.reduceBEq, Nat.reduceAdd, Nat.reduceSub, Nat.reduceMul, Nat.reduceLeDiff, reduceCtorEq, ↓reduceIte, Int.reduceLT, Int.reduceLE, Int.reduceEq, Int.reduceNe]
    refine s_idx hB (by omega) (by omega) ?_
    simp only [go_sem, Nat.reduceBEq, Nat.reduceAdd, Nat.reduceSub, Nat.reduceMul, Nat.reduceLeDiff, reduceCtorEq, ↓reduceIte, Int.reduceLT, Int.reduceLE, Int.reduceEq, Int.reduceNe]
    refine s_ld0 (hc2 _ (Mem.le.refl _)) (by simp) (by simp) ?_
    simp only [go_sem, Nat.reduceBEq, Nat.reduceAdd, Nat.reduceSub, Nat.reduceMul, Nat.reduceLeDiff, reduceCtorEq, ↓reduceIte, Int.reduceLT, Int.reduceLE, Int.reduceEq, Int.reduceNe]
    refine ⟨fun hne => Up.here ?_, fun heq => ?_⟩
    · subst hR
      refine ⟨rfl, ?_⟩
      have : xs ≠ ys := fun e => by subst e; exact hne rfl
      simp [this]
    · simp (disch := omega) only [wrap_id]
      exact ⟨f - 1, by omega, Up.here ⟨rfl, k + 1, rfl, by omega, take_eq_succ hk hk' htk heq⟩⟩
  · have hk : k = xs.length := by omega
    refine Up.here ?_
    subst hR
    refine ⟨rfl, ?_⟩
    have : xs = ys := by
      rw [hk, List.take_length, hl, List.take_length] at htk
      exact htk
    simp [this]

/-! the order that coins draw -/
end Go.Proofs.Ytniobbepliknmaa.V
/- Library functions on symbols, rules and words; no condition. -/
namespace Go.Proofs.Ytniobbepliknmaa.V
open Go
set_option linter.unusedVariables false
set_option linter.unusedSimpArgs false
attribute [local go_sem] e_seq e_region e_quiet e_join e_loop e_cond e_block e_exit e_ret e_skip e_fin e_kseq e_snrm e_sret e_sex e_bnrm e_bret e_bex e_rnrm e_rret e_res e_condC e_nil e_g e_mv g_mv e_pick g_pick pickC_eq e_ibin g_ibin ibinC_eq e_sbin g_sbin e_beq g_beq beqC_eq e_nilq g_nilq nilqC_sl nilqC_pt nilqC_mp e_un g_un unC_not unC_neg e_conv g_conv convC_eq e_fld g_fld fldC_ref fldC_ptr e_nilCheck g_nilCheck nilCheckC_ref nilCheckC_ptr nilCheckC_fun e_field g_field fieldC_eq e_len g_len lenC_sl lenC_str e_extract g_extract extractC_eq e_mkFunc e_build g_build e_idiv g_idiv idivC_eq e_ishift g_ishift ishiftC_eq e_idx g_idx e_idxA g_idxA e_load g_load e_loadB g_loadB atB_ref atB_v g_mkFunc loadC_ref loadC_ptr loadB_eq e_slc g_slc e_box boxC_loc boxC_esc e_alloc allocC_loc allocC_esc e_buildS e_store storeC_ref storeC_ptr storeB_eq e_append e_appz e_mk mkC_eq e_call callC_eq e_fn g_fn fnC_eq fnV_min' fnV_max' fnV_rune' e_q g_q e_a e_n g_call g_box g_alloc g_buildS g_store g_append g_mk g_a g_n g_dead e_dead e_callK e_drawn e_tree e_finJ e_tk e_tfin e_tno e_nbt_q e_nbt_qn e_nbt_a e_nbt_an e_nbt_fin e_drawnB e_bxb_nil e_bxb e_stB_none e_stB_some boxSt_store bs_mv bs_pick bs_ibin bs_idiv bs_ishift bs_sbin bs_beq bs_nilq bs_un bs_conv bs_box bs_alloc bs_build bs_buildS bs_load bs_fld bs_nilCheck bs_idx bs_idxA bs_field bs_slc bs_len bs_append bs_appz bs_mk bs_call bs_extract bs_mkFunc bs_fn bs_q bs_a bs_n bs_loadB bs_dead isBox_box e_early_nil e_early_t e_early_f e_nob_nil e_nob_none e_nob_some isBox_dead isBox_v isBox_ref e_dnil e_dk e_ek e_finB vcOps_vc1 e_dcons e_tq e_ekt e_tearly e_talt e_dearly look_nil look_c proj_nil proj_c looks_nil looks_c zip_nil zip_c val_tmp val_const val_func slv_v slv_box slv_ref slot_tmp slot_const slot_func slotL_v slotL_box slotL_ref put_some put_none updBox_c boxSet_box gd_eq slotVals_nil slotVals_c slotVals_b boxV_box boxOn_box slotsOn_nil slotsOn_c slotsOn_b resV_one resV_two vals_nil vals_c allOn_nil allOn_c partOn_nil partOn_c partVals_nil partVals_c fits_nil fits_c fillL_nil fillL_c mkv_one mkv_agg cellsV_agg cellsV_int cellsV_bool cellsV_slice cellsV_string cellsV_pointer cellsV_func cellsV_nilf cellsV_map one'_nil one'_c oc_int oc_bool oc_slice oc_string oc_pointer oc_func oc_nilf oc_map setC_eq iv_add iv_sub iv_mul iv_eql iv_neq iv_lss iv_leq iv_gtr iv_geq iok_add iok_sub iok_mul iok_eql iok_neq iok_lss iok_leq iok_gtr iok_geq pickV_bool args0_nil args0_c bnd_none bnd_some imp_bt imp_bf imp_ebt imp_ebf imp_eb1 imp_np imp_pp beq_tt beq_tf beq_ft beq_ff cond_or cond_and e_round e_meet Int.le_refl Int.toNat_zero decide_true decide_false Bool.or_false Bool.false_or Bool.true_or Bool.or_true Bool.and_false Bool.false_and Bool.bne_false Bool.bne_true beq_iff_eq Int.cast_ofNat_Int not_false_eq_true not_true_eq_false false_and and_false false_implies true_implies true_and and_true Bool.true_and Bool.and_true Bool.not_true Bool.not_false forall_const implies_true List.take_zero List.drop_zero List.take_succ_cons List.drop_succ_cons List.take_nil List.drop_nil List.length_cons List.length_nil List.nil_append List.append_nil List.cons_append Int.toNat_natCast decide_eq_true_eq decide_eq_false_iff_not cond_true cond_false and_self List.getElem?_cons_zero List.getElem?_cons_succ List.set_cons_zero List.set_cons_succ Option.some.injEq exists_eq_left' Nat.zero_add Nat.add_zero Nat.mul_one imp_self true_or or_true or_false false_or Bool.or_eq_true Bool.or_eq_false_iff Bool.and_eq_true Bool.and_eq_false_iff Bool.not_eq_true' Bool.not_eq_false'

theorem Row.cut {α : Type} [Rep α] {g : PH} {L : Mem} {e : TypeId} {sz n : Nat} {A : Option Addr} {m c : Nat} {xs : List Value} (hsz : sz = Rep.sz α) (h : Row g e sz (.slice A m c) n xs) : Bld (α := α) g L e (.slice A 0 c) [] := by
  subst hsz
  rcases h.2 with ⟨q0, A', q⟩ | ⟨b, o, cap, cur, q1, q2, q3, q4, q5, q6⟩
  · simp only [Value.slice.injEq] at q
    obtain ⟨rfl, rfl, rfl⟩ := q
    exact ⟨[], ⟨by simp, .inl ⟨rfl, _, rfl⟩⟩, by simp⟩
  · simp only [Value.slice.injEq] at q1
    obtain ⟨rfl, rfl, rfl⟩ := q1
    exact ⟨[], ⟨by simp, .inr ⟨b, o, cap, cur, rfl, by simp, q3, q4, q5, by simp⟩⟩, by simp⟩
end Go.Proofs.Ytniobbepliknmaa.V
/- The text of slices.EqualFunc[[][]int,[][]int,[]int,[]int] as a statement (slots: 0 s1, 1 s2, 2 eq, 3 s1, 4 s2, 5 eq, 7 i, 8 v1, 9 v2); no condition. -/
namespace Go.Proofs.Ytniobbepliknmaa.V
open Go
def S82_1 : Stmt :=
 .seq
 (.region [.mk (some 18) none (.ibin .lss (.tmp 17) (.tmp 16))] [1,2,15,16,17,18])
 (.seq (.cond (.tmp 18) .skip (.exit 0))
 (.seq
 (.block 1
 (.seq
 (.region
 [.mk (some 19) none (.mv (.tmp 17)),
 .mk (some 20) none (.idx 1 (.tmp 15) (.tmp 17)),
 .mk (some 21) none (.load false 1 (.tmp 20)),
 .mk (some 7) none (.mv (.tmp 19)),.mk (some 8) none (.mv (.tmp 21))]
 [1,2,7,8,15,16,17])
 (.seq
 (.region
 [.mk (some 22) none (.mv (.tmp 1)),.mk (some 23) none (.mv (.tmp 7)),
 .mk (some 24) none (.idx 1 (.tmp 22) (.tmp 23)),
 .mk (some 25) none (.load false 1 (.tmp 24)),
 .mk (some 9) none (.mv (.tmp 25))]
 [1,2,8,9,15,16,17])
 (.seq
 (.region
 [.mk (some 26) none (.mv (.tmp 2)),.mk (some 27) none (.mv (.tmp 8)),
 .mk (some 28) none (.mv (.tmp 9)),
 .mk (some 29) none (.call (.tmp 26) [.tmp 27,.tmp 28]),
 .mk (some 30) none (.un .not (.tmp 29))]
 [1,2,15,16,17,30])
 (.cond (.tmp 30)
 (.seq (.region [.mk (some 6) none (.mv (.const (.bool false)))] [6])
 .ret)
 .skip)))))
 (.region
 [.mk (some 31) none (.ibin .add (.tmp 17) (.const (.int .i64 1))),
 .mk (some 17) none (.mv (.tmp 31))]
 [1,2,15,16,17])))
def S82_0 : Stmt :=
 .seq (.region [.mk (some 6) none (.mv (.const (.bool false)))] [0,1,2])
 (.seq
 (.seq
 (.region
 [.mk (some 10) none (.mv (.tmp 0)),.mk (some 11) none (.len false (.tmp 10)),
 .mk (some 12) none (.mv (.tmp 1)),.mk (some 13) none (.len false (.tmp 12)),
 .mk (some 14) none (.ibin .neq (.tmp 11) (.tmp 13))]
 [0,1,2,14])
 (.cond (.tmp 14)
 (.seq (.region [.mk (some 6) none (.mv (.const (.bool false)))] [6]) .ret)
 .skip))
 (.seq
 (.seq
 (.region
 [.mk (some 15) none (.mv (.tmp 0)),.mk (some 16) none (.len false (.tmp 15)),
 .mk (some 17) none (.mv (.const (.int .i64 0)))]
 [1,2,15,16,17])
 (.block 0 (.loop S82_1 [17] [1,2,15,16])))
 (.seq (.region [.mk (some 6) none (.mv (.const (.bool true)))] [6]) .ret)))
def S82 : FnS := ⟨32,[(6,none)],S82_0⟩
theorem tr82 : trFn Try.prog 82 [] [[0,1,2],[0,1,2,14],[6],[1,2,15,16,17],[17],[1,2,15,16],[1,2,15,16,17,18],[1,2,7,8,15,16,17],[1,2,8,9,15,16,17],[1,2,15,16,17,30],[6],[1,2,15,16,17],[6]] = some S82 := by kernel_rfl
end Go.Proofs.Ytniobbepliknmaa.V
/- slices.EqualFunc of rows of numbers by slices.Equal, parlref5.DfaRight; no condition. -/
namespace Go.Proofs.Ytniobbepliknmaa.V
open Go
set_option linter.unusedVariables false
set_option linter.unusedSimpArgs false
attribute [local go_sem] e_seq e_region e_quiet e_join e_loop e_cond e_block e_exit e_ret e_skip e_fin e_kseq e_snrm e_sret e_sex e_bnrm e_bret e_bex e_rnrm e_rret e_res e_condC e_nil e_g e_mv g_mv e_pick g_pick pickC_eq e_ibin g_ibin ibinC_eq e_sbin g_sbin e_beq g_beq beqC_eq e_nilq g_nilq nilqC_sl nilqC_pt nilqC_mp e_un g_un unC_not unC_neg e_conv g_conv convC_eq e_fld g_fld fldC_ref fldC_ptr e_nilCheck g_nilCheck nilCheckC_ref nilCheckC_ptr nilCheckC_fun e_field g_field fieldC_eq e_len g_len lenC_sl lenC_str e_extract g_extract extractC_eq e_mkFunc e_build g_build e_idiv g_idiv idivC_eq e_ishift g_ishift ishiftC_eq e_idx g_idx e_idxA g_idxA e_load g_load e_loadB g_loadB atB_ref atB_v g_mkFunc loadC_ref loadC_ptr loadB_eq e_slc g_slc e_box boxC_loc boxC_esc e_alloc allocC_loc allocC_esc e_buildS e_store storeC_ref storeC_ptr storeB_eq e_append e_appz e_mk mkC_eq e_call callC_eq e_fn g_fn fnC_eq fnV_min' fnV_max' fnV_rune' e_q g_q e_a e_n g_call g_box g_alloc g_buildS g_store g_append g_mk g_a g_n g_dead e_dead e_callK e_drawn e_tree e_finJ e_tk e_tfin e_tno e_nbt_q e_nbt_qn e_nbt_a e_nbt_an e_nbt_fin e_drawnB e_bxb_nil e_bxb e_stB_none e_stB_some boxSt_store bs_mv bs_pick bs_ibin bs_idiv bs_ishift bs_sbin bs_beq bs_nilq bs_un bs_conv bs_box bs_alloc bs_build bs_buildS bs_load bs_fld bs_nilCheck bs_idx bs_idxA bs_field bs_slc bs_len bs_append bs_appz bs_mk bs_call bs_extract bs_mkFunc bs_fn bs_q bs_a bs_n bs_loadB bs_dead isBox_box e_early_nil e_early_t e_early_f e_nob_nil e_nob_none e_nob_some isBox_dead isBox_v isBox_ref e_dnil e_dk e_ek e_finB vcOps_vc1 e_dcons e_tq e_ekt e_tearly e_talt e_dearly look_nil look_c proj_nil proj_c looks_nil looks_c zip_nil zip_c val_tmp val_const val_func slv_v slv_box slv_ref slot_tmp slot_const slot_func slotL_v slotL_box slotL_ref put_some put_none updBox_c boxSet_box gd_eq slotVals_nil slotVals_c slotVals_b boxV_box boxOn_box slotsOn_nil slotsOn_c slotsOn_b resV_one resV_two vals_nil vals_c allOn_nil allOn_c partOn_nil partOn_c partVals_nil partVals_c fits_nil fits_c fillL_nil fillL_c mkv_one mkv_agg cellsV_agg cellsV_int cellsV_bool cellsV_slice cellsV_string cellsV_pointer cellsV_func cellsV_nilf cellsV_map one'_nil one'_c oc_int oc_bool oc_slice oc_string oc_pointer oc_func oc_nilf oc_map setC_eq iv_add iv_sub iv_mul iv_eql iv_neq iv_lss iv_leq iv_gtr iv_geq iok_add iok_sub iok_mul iok_eql iok_neq iok_lss iok_leq iok_gtr iok_geq pickV_bool args0_nil args0_c bnd_none bnd_some imp_bt imp_bf imp_ebt imp_ebf imp_eb1 imp_np imp_pp beq_tt beq_tf beq_ft beq_ff cond_or cond_and e_round e_meet Int.le_refl Int.toNat_zero decide_true decide_false Bool.or_false Bool.false_or Bool.true_or Bool.or_true Bool.and_false Bool.false_and Bool.bne_false Bool.bne_true beq_iff_eq Int.cast_ofNat_Int not_false_eq_true not_true_eq_false false_and and_false false_implies true_implies true_and and_true Bool.true_and Bool.and_true Bool.not_true Bool.not_false forall_const implies_true List.take_zero List.drop_zero List.take_succ_cons List.drop_succ_cons List.take_nil List.drop_nil List.length_cons List.length_nil List.nil_append List.append_nil List.cons_append Int.toNat_natCast decide_eq_true_eq decide_eq_false_iff_not cond_true cond_false and_self List.getElem?_cons_zero List.getElem?_cons_succ List.set_cons_zero List.set_cons_succ Option.some.injEq exists_eq_left' Nat.zero_add Nat.add_zero Nat.mul_one imp_self true_or or_true or_false false_or Bool.or_eq_true Bool.or_eq_false_iff Bool.and_eq_true Bool.and_eq_false_iff Bool.not_eq_true' Bool.not_eq_false'

theorem equal_rows {Γr : Ctx} {A B : Option Addr} {c d : Nat} {xs ys : List (List Int)} (hx : SlOk (lk Γr) A c xs) (hy : SlOk (lk Γr) B d ys) :
    Ret Try.prog 82 [.slice A xs.length c, .slice B ys.length d, .func (.func 28) #[] #[]] Γr [] (fun v Γ => Γ = [] ∧ v = .bool (decide (xs = ys))) := by
  generalize hR : (fun v Γ => Γ = [] ∧ v = _) = R
  refine ret_of_vc tr82 (Nat.le_of_ble_eq_true rfl) ?_
  have h1 := hx.short
  have h2 := hy.short
  simp -implicitDefEqProofs only [S82, S82_0, go_sem, Nat.reduceBEq, Nat.reduceAdd, Nat.reduceSub, Nat.reduceMul, Nat.reduceLeDiff, reduceCtorEq, ↓reduceIte, Int.reduceLT, Int.reduceLE, Int.reduceEq, Int.reduceNe]
  refine ⟨fun hne => Up.here ?_, fun heq => ?_⟩
  · subst hR
    refine ⟨rfl, ?_⟩
    have : xs ≠ ys := fun e => by subst e; exact hne rfl
    simp [this]
  have hl : xs.length = ys.length := by omega
  refine s_loop (fun f vs Γ => Γ = [] ∧ ∃ k : Nat, vs = [.v true (.int .i64 k)] ∧ k + f = xs.length ∧ xs.take k = ys.take k) xs.length (Up.here ⟨rfl, 0, rfl, by omega, by simp⟩) ?_
  rintro f vs Γ ⟨rfl, k, rfl, hkf, htk⟩
  simp -implicitDefEqProofs only [S82_1, go_sem, Nat.reduceBEq, Nat.reduceAdd, Nat.reduceSub, Nat.reduceMul, Nat.reduceLeDiff, reduceCtorEq, ↓reduceIte, Int.reduceLT, Int.reduceLE, Int.reduceEq, Int.reduceNe]
  refine ⟨fun hlt => ?_, fun hge => ?_⟩
  · have hk : k < xs.length := by omega
    have hk' : k < ys.length := by omega
    obtain ⟨b, o, hA, A1, c1, hr1, hc1⟩ := hx.list hk
    obtain ⟨b', o', hB, A2, c2, hr2, hc2⟩ := hy.list hk'
    refine s_idx hA (by omega) (by omega) ?_
    simp -implicitDefEqProofs only [go_sem, Nat.reduceBEq, Nat.reduceAdd, Nat.reduceSub, Nat.reduceMul, Nat.reduceLeDiff, reduceCtorEq, ↓reduceIte, Int.reduceLT, Int.reduceLE, Int.reduceEq, Int.reduceNe]
    refine s_ld0 (hc1 _ (Mem.le.refl _)) (by simp) (by simp) ?_
    simp -implicitDefEqProofs only [go_sem, Nat.reduceBEq, Nat.reduceAdd, Nat.reduceSub, Nat.reduceMul, Nat.reduceLeDiff, reduceCtorEq, ↓reduceIte, Int.reduceLT, Int.reduceLE, Int.reduceEq, Int.reduceNe]
    refine s_idx hB (by omega) (by omega) ?_
    simp -implicitDefEqProofs only [go_sem, Nat.reduceBEq, Nat.reduceAdd, Nat.reduceSub, Nat.reduceMul, Nat.reduceLeDiff, reduceCtorEq, ↓reduceIte, Int.reduceLT, Int.reduceLE, Int.reduceEq, Int.reduceNe]
    refine s_ld0 (hc2 _ (Mem.le.refl _)) (by simp) (by simp) ?_
    simp -implicitDefEqProofs only [go_sem, Nat.reduceBEq, Nat.reduceAdd, Nat.reduceSub, Nat.reduceMul, Nat.reduceLeDiff, reduceCtorEq, ↓reduceIte, Int.reduceLT, Int.reduceLE, Int.reduceEq, Int.reduceNe]
    refine CallVC.read (slices_equal (hr1.mono (Mem.le.refl _)) (hr2.mono (Mem.le.refl _))) ?_
    rintro v Γ' ⟨rfl, rfl⟩
    simp -implicitDefEqProofs only [go_sem, Nat.reduceBEq, Nat.reduceAdd, Nat.reduceSub, Nat.reduceMul, Nat.reduceLeDiff, reduceCtorEq, ↓reduceIte, Int.reduceLT, Int.reduceLE, Int.reduceEq, Int.reduceNe]
    refine ⟨fun hne => Up.here ?_, fun heq => ?_⟩
    · subst hR
      refine ⟨rfl, ?_⟩
      have : xs ≠ ys := fun e => by subst e; simp at hne
      simp [this]
    · simp (disch := omega) only [wrap_id]
      exact ⟨f - 1, by omega, Up.here ⟨rfl, k + 1, rfl, by omega, take_eq_succ hk hk' htk (by simpa using heq)⟩⟩
  · have hk : k = xs.length := by omega
    refine Up.here ?_
    subst hR
    refine ⟨rfl, ?_⟩
    have : xs = ys := by
      have := htk
      rw [hk, List.take_length] at this
      rw [this, hl, List.take_length]
    simp [this]
end Go.Proofs.Ytniobbepliknmaa.V
/- The text of parlance/parllaw5.plain as a statement (slots: ); no condition. -/
namespace Go.Proofs.Ytniobbepliknmaa.V
open Go
def S40_0 : Stmt :=
 .seq
 (.region
 [.mk (some 0) none
 (.alloc true 57
 (.agg
 (Array.mk
 [.int .i64 0,.int .i64 0,.int .i64 0,.slice none 0 0])))]
 [0])
 (.seq
 (.region
 [.mk (some 1) none
 (.build 39 [.bool false,.int .i64 0] [(0,1,.const (.bool true))]),
 .mk (some 2) none (.buildS 39 1 [.bool false,.int .i64 0] [(0,2,.tmp 1)]),
 .mk (some 3) none (.build 37 [.int .i64 0,.slice none 0 0] [(1,1,.tmp 2)]),
 .mk (some 4) none
 (.build 39 [.bool false,.int .i64 0]
 [(0,1,.const (.bool true)),(1,1,.const (.int .i64 1))]),
 .mk (some 5) none (.build 39 [.bool false,.int .i64 0] []),
 .mk (some 6) none
 (.buildS 39 2 [.bool false,.int .i64 0,.bool false,.int .i64 0]
 [(0,2,.tmp 4),(2,2,.tmp 5)]),
 .mk (some 7) none (.build 37 [.int .i64 0,.slice none 0 0] [(1,1,.tmp 6)]),
 .mk (some 8) none
 (.buildS 37 2
 [.int .i64 0,.slice none 0 0,.int .i64 0,.slice none 0 0]
 [(0,2,.tmp 3),(2,2,.tmp 7)]),
 .mk (some 9) none
 (.build 57
 [.int .i64 0,.int .i64 0,.int .i64 0,.slice none 0 0]
 [(0,1,.const (.int .i64 2)),(1,1,.const (.int .i64 1)),
 (3,1,.tmp 8)]),
 .mk none none (.store 4 (.tmp 0) (.tmp 9))]
 [0])
 .ret)
def S40 : FnS := ⟨10,[(0,some (true,4))],S40_0⟩
theorem tr40 : trFn Try.prog 40 [0] [[0],[0]] = some S40 := by kernel_rfl
end Go.Proofs.Ytniobbepliknmaa.V
/- parllaw5.plain and slices.Equal of bools walked; no condition. -/
namespace Go.Proofs.Ytniobbepliknmaa.V
open Go
set_option linter.unusedVariables false
set_option linter.unusedSimpArgs false
attribute [local go_sem] e_seq e_region e_quiet e_join e_loop e_cond e_block e_exit e_ret e_skip e_fin e_kseq e_snrm e_sret e_sex e_bnrm e_bret e_bex e_rnrm e_rret e_res e_condC e_nil e_g e_mv g_mv e_pick g_pick pickC_eq e_ibin g_ibin ibinC_eq e_sbin g_sbin e_beq g_beq beqC_eq e_nilq g_nilq nilqC_sl nilqC_pt nilqC_mp e_un g_un unC_not unC_neg e_conv g_conv convC_eq e_fld g_fld fldC_ref fldC_ptr e_nilCheck g_nilCheck nilCheckC_ref nilCheckC_ptr nilCheckC_fun e_field g_field fieldC_eq e_len g_len lenC_sl lenC_str e_extract g_extract extractC_eq e_mkFunc e_build g_build e_idiv g_idiv idivC_eq e_ishift g_ishift ishiftC_eq e_idx g_idx e_idxA g_idxA e_load g_load e_loadB g_loadB atB_ref atB_v g_mkFunc loadC_ref loadC_ptr loadB_eq e_slc g_slc e_box boxC_loc boxC_esc e_alloc allocC_loc allocC_esc e_buildS e_store storeC_ref storeC_ptr storeB_eq e_append e_appz e_mk mkC_eq e_call callC_eq e_fn g_fn fnC_eq fnV_min' fnV_max' fnV_rune' e_q g_q e_a e_n g_call g_box g_alloc g_buildS g_store g_append g_mk g_a g_n g_dead e_dead e_callK e_drawn e_tree e_finJ e_tk e_tfin e_tno e_nbt_q e_nbt_qn e_nbt_a e_nbt_an e_nbt_fin e_drawnB e_bxb_nil e_bxb e_stB_none e_stB_some boxSt_store bs_mv bs_pick bs_ibin bs_idiv bs_ishift bs_sbin bs_beq bs_nilq bs_un bs_conv bs_box bs_alloc bs_build bs_buildS bs_load bs_fld bs_nilCheck bs_idx bs_idxA bs_field bs_slc bs_len bs_append bs_appz bs_mk bs_call bs_extract bs_mkFunc bs_fn bs_q bs_a bs_n bs_loadB bs_dead isBox_box e_early_nil e_early_t e_early_f e_nob_nil e_nob_none e_nob_some isBox_dead isBox_v isBox_ref e_dnil e_dk e_ek e_finB vcOps_vc1 e_dcons e_tq e_ekt e_tearly e_talt e_dearly look_nil look_c proj_nil proj_c looks_nil looks_c zip_nil zip_c val_tmp val_const val_func slv_v slv_box slv_ref slot_tmp slot_const slot_func slotL_v slotL_box slotL_ref put_some put_none updBox_c boxSet_box gd_eq slotVals_nil slotVals_c slotVals_b boxV_box boxOn_box slotsOn_nil slotsOn_c slotsOn_b resV_one resV_two vals_nil vals_c allOn_nil allOn_c partOn_nil partOn_c partVals_nil partVals_c fits_nil fits_c fillL_nil fillL_c mkv_one mkv_agg cellsV_agg cellsV_int cellsV_bool cellsV_slice cellsV_string cellsV_pointer cellsV_func cellsV_nilf cellsV_map one'_nil one'_c oc_int oc_bool oc_slice oc_string oc_pointer oc_func oc_nilf oc_map setC_eq iv_add iv_sub iv_mul iv_eql iv_neq iv_lss iv_leq iv_gtr iv_geq iok_add iok_sub iok_mul iok_eql iok_neq iok_lss iok_leq iok_gtr iok_geq pickV_bool args0_nil args0_c bnd_none bnd_some imp_bt imp_bf imp_ebt imp_ebf imp_eb1 imp_np imp_pp beq_tt beq_tf beq_ft beq_ff cond_or cond_and e_round e_meet Int.le_refl Int.toNat_zero decide_true decide_false Bool.or_false Bool.false_or Bool.true_or Bool.or_true Bool.and_false Bool.false_and Bool.bne_false Bool.bne_true beq_iff_eq Int.cast_ofNat_Int not_false_eq_true not_true_eq_false false_and and_false false_implies true_implies true_and and_true Bool.true_and Bool.and_true Bool.not_true Bool.not_false forall_const implies_true List.take_zero List.drop_zero List.take_succ_cons List.drop_succ_cons List.take_nil List.drop_nil List.length_cons List.length_nil List.nil_append List.append_nil List.cons_append Int.toNat_natCast decide_eq_true_eq decide_eq_false_iff_not cond_true cond_false and_self List.getElem?_cons_zero List.getElem?_cons_succ List.set_cons_zero List.set_cons_succ Option.some.injEq exists_eq_left' Nat.zero_add Nat.add_zero Nat.mul_one imp_self true_or or_true or_false false_or Bool.or_eq_true Bool.or_eq_false_iff Bool.and_eq_true Bool.and_eq_false_iff Bool.not_eq_true' Bool.not_eq_false'

def plainG : Gr := ⟨2, 1, 0, [⟨0, [⟨true, 0⟩]⟩, ⟨0, [⟨true, 1⟩, ⟨false, 0⟩]⟩]⟩
theorem plain_ {Γr : Ctx} : Ret Try.prog 40 [] Γr [] (fun v Γ => ∃ g A c, Γ = [g] ∧ SlOk (lk [g]) A c plainG.rs ∧ v = .agg #[.int .i64 2, .int .i64 1, .int .i64 0, .slice A 2 c]) := by
  generalize hR : (fun (v : Value) (Γ : Ctx) => ∃ g A c, _) = R
  refine ret_of_vc tr40 (Nat.le_of_ble_eq_true rfl) ?_
  simp -implicitDefEqProofs only [S40, S40_0, go_sem, Nat.reduceBEq, Nat.reduceAdd, Nat.reduceSub, Nat.reduceMul, Nat.reduceLeDiff, reduceCtorEq, ↓reduceIte, Int.reduceLT, Int.reduceLE, Int.reduceEq, Int.reduceNe]
  intro b b1 b2
  refine Up.one fun g hg => ?_
  subst hR
  refine ⟨g, _, 2, rfl, ?_, rfl⟩
  refine lit_rep2 (cs := [.int .i64 0, .slice (some ⟨b, 0, none⟩) 1 1]) (ds := [.int .i64 0, .slice (some ⟨b1, 0, none⟩) 2 2]) _ _ (hg _ _ lk_head) rfl ⟨_, _, rfl, ?_⟩ ⟨_, _, rfl, ?_⟩
  · exact lit_rep1 (cs := [.bool true, .int .i64 0]) (⟨true, 0⟩ : Sy) (hg _ _ (lk_tail (lk_tail lk_head))) rfl
  · exact lit_rep2 (cs := [.bool true, .int .i64 1]) (ds := [.bool false, .int .i64 0]) (⟨true, 1⟩ : Sy) (⟨false, 0⟩ : Sy) (hg _ _ (lk_tail lk_head)) rfl rfl rfl
end Go.Proofs.Ytniobbepliknmaa.V
/- The text of parlance/parllaw5.CensusTells as a statement (slots: 0 g, 1 n, 2 g, 3 n, 5 x, 6 e, 7 l, 8 e, 9 m, 10 f, 11 x, 12 h, 13 y, 14 i, 15 least, 16 k, 17 bad); no condition. -/
namespace Go.Proofs.Ytniobbepliknmaa.V
open Go
def S15_0 : Stmt :=
 .seq
 (.region
 [.mk (some 2) none (.box true 57 (.tmp 0)),
 .mk (some 4) none (.mv (.const (.bool false)))]
 [1,2])
 (.seq
 (.seq
 (.region
 [.mk (some 19) none (.call (.func 40) []),
 .mk (some 20) none
 (.call (.func 78) [.tmp 19,.const (.int .i64 3)]),
 .mk (some 18) none (.mv (.tmp 20)),.mk (some 21) none (.extract 0 (.tmp 18)),
 .mk (some 22) none (.extract 1 (.tmp 18)),.mk (some 5) none (.mv (.tmp 21)),
 .mk (some 6) none (.mv (.tmp 22))]
 [1,2,5,6])
 (.seq
 (.region
 [.mk (some 23) none (.mv (.tmp 5)),
 .mk (some 24) none (.ibin .neq (.tmp 23) (.const (.int .i64 3))),
 .mk (some 25) none (.mv (.tmp 24)),
 .mk (some 26) (some (25,false)) (.mv (.tmp 6)),
 .mk (some 27) (some (25,false))
 (.ibin .neq (.tmp 26) (.const (.int .i64 0))),
 .mk (some 28) none (.pick (.tmp 25) (.const (.bool true)) (.tmp 27))]
 [1,2,28])
 (.cond (.tmp 28)
 (.seq (.region [.mk (some 4) none (.mv (.const (.bool false)))] [4]) .ret)
 .skip)))
 (.seq
 (.region
 [.mk (some 30) none (.load true 4 (.tmp 2)),.mk (some 31) none (.mv (.tmp 1)),
 .mk (some 32) none (.call (.func 79) [.tmp 30,.tmp 31]),
 .mk (some 29) none (.mv (.tmp 32)),.mk (some 33) none (.extract 0 (.tmp 29)),
 .mk (some 34) none (.extract 1 (.tmp 29)),.mk (some 7) none (.mv (.tmp 33)),
 .mk (some 8) none (.mv (.tmp 34))]
 [1,2,7,8])
 (.seq
 (.region
 [.mk (some 36) none (.load true 4 (.tmp 2)),.mk (some 37) none (.mv (.tmp 1)),
 .mk (some 38) none (.call (.func 80) [.tmp 36,.tmp 37]),
 .mk (some 35) none (.mv (.tmp 38)),.mk (some 39) none (.extract 0 (.tmp 35)),
 .mk (some 40) none (.extract 1 (.tmp 35)),.mk (some 9) none (.mv (.tmp 39)),
 .mk (some 10) none (.mv (.tmp 40))]
 [1,2,7,8,9,10])
 (.seq
 (.region
 [.mk (some 42) none (.load true 4 (.tmp 2)),
 .mk (some 43) none (.mv (.tmp 1)),
 .mk (some 44) none (.call (.func 78) [.tmp 42,.tmp 43]),
 .mk (some 41) none (.mv (.tmp 44)),
 .mk (some 45) none (.extract 0 (.tmp 41)),
 .mk (some 46) none (.extract 1 (.tmp 41)),
 .mk (some 11) none (.mv (.tmp 45)),.mk (some 12) none (.mv (.tmp 46))]
 [1,2,7,8,9,10,11,12])
 (.seq
 (.region
 [.mk (some 48) none (.load true 4 (.tmp 2)),
 .mk (some 49) none (.mv (.tmp 1)),
 .mk (some 50) none (.call (.func 81) [.tmp 48,.tmp 49]),
 .mk (some 47) none (.mv (.tmp 50)),
 .mk (some 51) none (.extract 0 (.tmp 47)),
 .mk (some 52) none (.extract 1 (.tmp 47)),
 .mk (some 13) none (.mv (.tmp 51)),.mk (some 14) none (.mv (.tmp 52))]
 [2,7,8,9,10,11,12,13,14])
 (.seq
 (.seq
 (.region
 [.mk (some 53) none (.mv (.tmp 8)),.mk (some 54) none (.mv (.tmp 10)),
 .mk (some 55) none (.ibin .neq (.tmp 53) (.tmp 54)),
 .mk (some 56) none (.mv (.tmp 55)),
 .mk (some 57) (some (56,false)) (.mv (.tmp 12)),
 .mk (some 58) (some (56,false)) (.mv (.tmp 14)),
 .mk (some 59) (some (56,false)) (.ibin .neq (.tmp 57) (.tmp 58)),
 .mk (some 60) none
 (.pick (.tmp 56) (.const (.bool true)) (.tmp 59)),
 .mk (some 61) none (.mv (.tmp 60)),
 .mk (some 62) (some (61,false)) (.mv (.tmp 11)),
 .mk (some 63) (some (61,false)) (.mv (.tmp 13)),
 .mk (some 64) (some (61,false)) (.ibin .neq (.tmp 62) (.tmp 63)),
 .mk (some 65) none
 (.pick (.tmp 61) (.const (.bool true)) (.tmp 64)),
 .mk (some 66) none (.mv (.tmp 65)),
 .mk (some 67) (some (66,false)) (.mv (.tmp 7)),
 .mk (some 68) (some (66,false)) (.mv (.tmp 9)),
 .mk (some 69) (some (66,false))
 (.call (.func 82) [.tmp 67,.tmp 68,.func 28]),
 .mk (some 70) (some (66,false)) (.un .not (.tmp 69)),
 .mk (some 71) none
 (.pick (.tmp 66) (.const (.bool true)) (.tmp 70))]
 [2,71])
 (.cond (.tmp 71)
 (.seq (.region [.mk (some 4) none (.mv (.const (.bool false)))] [4])
 .ret)
 .skip))
 (.seq
 (.region
 [.mk (some 73) none (.load true 4 (.tmp 2)),
 .mk (some 74) none (.call (.func 83) [.tmp 73]),
 .mk (some 72) none (.mv (.tmp 74)),
 .mk (some 75) none (.extract 0 (.tmp 72)),
 .mk (some 76) none (.extract 1 (.tmp 72)),
 .mk (some 15) none (.mv (.tmp 75)),
 .mk (some 16) none (.mv (.tmp 76))]
 [2,15,16])
 (.seq
 (.seq
 (.region
 [.mk (some 77) none (.load true 4 (.tmp 2)),
 .mk (some 78) none (.call (.func 42) [.tmp 77]),
 .mk (some 17) none (.mv (.tmp 78))]
 [2,15,16,17])
 (.seq
 (.region
 [.mk (some 79) none (.mv (.tmp 17)),
 .mk (some 80) none
 (.ibin .neq (.tmp 79) (.const (.int .i64 0)))]
 [2,15,16,17,80])
 (.cond (.tmp 80)
 (.seq
 (.region
 [.mk (some 81) none (.mv (.tmp 16)),
 .mk (some 82) none (.mv (.tmp 17)),
 .mk (some 83) none (.ibin .eql (.tmp 81) (.tmp 82)),
 .mk (some 84) none (.mv (.tmp 83)),
 .mk (some 85) (some (84,true)) (.mv (.tmp 15)),
 .mk (some 86) (some (84,true)) (.len false (.tmp 85)),
 .mk (some 87) (some (84,true))
 (.ibin .eql (.tmp 86) (.const (.int .i64 0))),
 .mk (some 88) none
 (.pick (.tmp 84) (.tmp 87) (.const (.bool false))),
 .mk (some 4) none (.mv (.tmp 88))]
 [4])
 .ret)
 .skip)))
 (.seq
 (.region
 [.mk (some 89) none (.mv (.tmp 16)),
 .mk (some 90) none
 (.ibin .eql (.tmp 89) (.const (.int .i64 0))),
 .mk (some 91) none (.mv (.tmp 90)),
 .mk (some 92) (some (91,true)) (.mv (.tmp 15)),
 .mk (some 93) (some (91,true)) (.load true 4 (.tmp 2)),
 .mk (some 94) (some (91,true)) (.call (.func 84) [.tmp 93]),
 .mk (some 95) (some (91,true))
 (.call (.func 28) [.tmp 92,.tmp 94]),
 .mk (some 96) none
 (.pick (.tmp 91) (.tmp 95) (.const (.bool false))),
 .mk (some 4) none (.mv (.tmp 96))]
 [4])
 .ret)))))))))
def S15 : FnS := ⟨97,[(4,none)],S15_0⟩
theorem tr15 : trFn Try.prog 15 [2] [[1,2],[1,2,5,6],[1,2,28],[4],[1,2,7,8],[1,2,7,8,9,10],[1,2,7,8,9,10,11,12],[2,7,8,9,10,11,12,13,14],[2,71],[4],[2,15,16],[2,15,16,17],[2,15,16,17,80],[4],[4]] = some S15 := by kernel_rfl
end Go.Proofs.Ytniobbepliknmaa.V
/- The law of parllaw5.CensusTells, given what parlref5.Census answers. -/
namespace Go.Proofs.Ytniobbepliknmaa.V
open Go
set_option linter.unusedVariables false
set_option linter.unusedSimpArgs false
attribute [local go_sem] e_seq e_region e_quiet e_join e_loop e_cond e_block e_exit e_ret e_skip e_fin e_kseq e_snrm e_sret e_sex e_bnrm e_bret e_bex e_rnrm e_rret e_res e_condC e_nil e_g e_mv g_mv e_pick g_pick pickC_eq e_ibin g_ibin ibinC_eq e_sbin g_sbin e_beq g_beq beqC_eq e_nilq g_nilq nilqC_sl nilqC_pt nilqC_mp e_un g_un unC_not unC_neg e_conv g_conv convC_eq e_fld g_fld fldC_ref fldC_ptr e_nilCheck g_nilCheck nilCheckC_ref nilCheckC_ptr nilCheckC_fun e_field g_field fieldC_eq e_len g_len lenC_sl lenC_str e_extract g_extract extractC_eq e_mkFunc e_build g_build e_idiv g_idiv idivC_eq e_ishift g_ishift ishiftC_eq e_idx g_idx e_idxA g_idxA e_load g_load e_loadB g_loadB atB_ref atB_v g_mkFunc loadC_ref loadC_ptr loadB_eq e_slc g_slc e_box boxC_loc boxC_esc e_alloc allocC_loc allocC_esc e_buildS e_store storeC_ref storeC_ptr storeB_eq e_append e_appz e_mk mkC_eq e_call callC_eq e_fn g_fn fnC_eq fnV_min' fnV_max' fnV_rune' e_q g_q e_a e_n g_call g_box g_alloc g_buildS g_store g_append g_mk g_a g_n g_dead e_dead e_callK e_drawn e_tree e_finJ e_tk e_tfin e_tno e_nbt_q e_nbt_qn e_nbt_a e_nbt_an e_nbt_fin e_drawnB e_bxb_nil e_bxb e_stB_none e_stB_some boxSt_store bs_mv bs_pick bs_ibin bs_idiv bs_ishift bs_sbin bs_beq bs_nilq bs_un bs_conv bs_box bs_alloc bs_build bs_buildS bs_load bs_fld bs_nilCheck bs_idx bs_idxA bs_field bs_slc bs_len bs_append bs_appz bs_mk bs_call bs_extract bs_mkFunc bs_fn bs_q bs_a bs_n bs_loadB bs_dead isBox_box e_early_nil e_early_t e_early_f e_nob_nil e_nob_none e_nob_some isBox_dead isBox_v isBox_ref e_dnil e_dk e_ek e_finB vcOps_vc1 e_dcons e_tq e_ekt e_tearly e_talt e_dearly look_nil look_c proj_nil proj_c looks_nil looks_c zip_nil zip_c val_tmp val_const val_func slv_v slv_box slv_ref slot_tmp slot_const slot_func slotL_v slotL_box slotL_ref put_some put_none updBox_c boxSet_box gd_eq slotVals_nil slotVals_c slotVals_b boxV_box boxOn_box slotsOn_nil slotsOn_c slotsOn_b resV_one resV_two vals_nil vals_c allOn_nil allOn_c partOn_nil partOn_c partVals_nil partVals_c fits_nil fits_c fillL_nil fillL_c mkv_one mkv_agg cellsV_agg cellsV_int cellsV_bool cellsV_slice cellsV_string cellsV_pointer cellsV_func cellsV_nilf cellsV_map one'_nil one'_c oc_int oc_bool oc_slice oc_string oc_pointer oc_func oc_nilf oc_map setC_eq iv_add iv_sub iv_mul iv_eql iv_neq iv_lss iv_leq iv_gtr iv_geq iok_add iok_sub iok_mul iok_eql iok_neq iok_lss iok_leq iok_gtr iok_geq pickV_bool args0_nil args0_c bnd_none bnd_some imp_bt imp_bf imp_ebt imp_ebf imp_eb1 imp_np imp_pp beq_tt beq_tf beq_ft beq_ff cond_or cond_and e_round e_meet Int.le_refl Int.toNat_zero decide_true decide_false Bool.or_false Bool.false_or Bool.true_or Bool.or_true Bool.and_false Bool.false_and Bool.bne_false Bool.bne_true beq_iff_eq Int.cast_ofNat_Int not_false_eq_true not_true_eq_false false_and and_false false_implies true_implies true_and and_true Bool.true_and Bool.and_true Bool.not_true Bool.not_false forall_const implies_true List.take_zero List.drop_zero List.take_succ_cons List.drop_succ_cons List.take_nil List.drop_nil List.length_cons List.length_nil List.nil_append List.append_nil List.cons_append Int.toNat_natCast decide_eq_true_eq decide_eq_false_iff_not cond_true cond_false and_self List.getElem?_cons_zero List.getElem?_cons_succ List.set_cons_zero List.set_cons_succ Option.some.injEq exists_eq_left' Nat.zero_add Nat.add_zero Nat.mul_one imp_self true_or or_true or_false false_or Bool.or_eq_true Bool.or_eq_false_iff Bool.and_eq_true Bool.and_eq_false_iff Bool.not_eq_true' Bool.not_eq_false'

theorem plain_total : cenE plainG 3 = 0 ∧ totF plainG 3 = 3 := by decide +kernel
theorem law_census {Γr : Ctx} {g : Gr} {cs : List Value} (hg : Rep.ok (lk Γr) g cs) {n : Int} (hn : -9223372036854775808 ≤ n ∧ n ≤ 9223372036854775807)
    (hcen : ∀ {Γr : Ctx} {g : Gr} {R : Option Addr} {cR : Nat}, SlOk (lk Γr) R cR g.rs → Ret Try.prog 80 [.agg #[.int .i64 g.ts, .int .i64 g.ns, .int .i64 g.st, .slice R g.rs.length cR], .int .i64 n] Γr [] (CenR g n)) :
    Ret Try.prog 15 [.agg cs.toArray, .int .i64 n] Γr [] (fun v Γ => Γ = [] ∧ v = .bool true) := by
  obtain ⟨A, c, rfl, hx⟩ := ok_gr hg
  generalize hR : (fun (v : Value) (Γ : Ctx) => Γ = [] ∧ v = Value.bool true) = R
  refine ret_of_vc tr15 (Nat.le_of_ble_eq_true rfl) ?_
  simp -implicitDefEqProofs only [S15, S15_0, go_sem, Nat.reduceBEq, Nat.reduceAdd, Nat.reduceSub, Nat.reduceMul, Nat.reduceLeDiff, reduceCtorEq, ↓reduceIte, Int.reduceLT, Int.reduceLE, Int.reduceEq, Int.reduceNe]
  intro bg
  refine CallVC.read (plain_ (Γr := [] ++ Γr)) ?_
  rintro v Γ' ⟨gp, Ap, cp, rfl, hp, rfl⟩
  simp -implicitDefEqProofs only [go_sem, Nat.reduceBEq, Nat.reduceAdd, Nat.reduceSub, Nat.reduceMul, Nat.reduceLeDiff, reduceCtorEq, ↓reduceIte, Int.reduceLT, Int.reduceLE, Int.reduceEq, Int.reduceNe]
  refine CallVC.read (Γ := [gp]) (census_total (g := plainG) (Γr := [gp] ++ Γr) (n := 3) (hp.mono (lk_l [gp] Γr)) (by omega)) ?_
  rintro v Γ' ⟨rfl, rfl⟩
  have hpt : (if cenE plainG 3 = 0 then totF plainG (3 : Int).toNat else 0) = 3 := by rw [if_pos plain_total.1]; exact plain_total.2
  rw [hpt, plain_total.1]
  simp -implicitDefEqProofs only [go_sem, Nat.reduceBEq, Nat.reduceAdd, Nat.reduceSub, Nat.reduceMul, Nat.reduceLeDiff, reduceCtorEq, ↓reduceIte, Int.reduceLT, Int.reduceLE, Int.reduceEq, Int.reduceNe]
  refine CallVC.read (Γ := [gp]) (census_trees (Γr := [gp] ++ Γr) (hx.mono (lk_r [gp] Γr)) hn) ?_
  rintro v Γ' (⟨hne, rfl, rfl⟩ | ⟨h0, g1, A1, c1, rfl, rfl, hS1⟩)
  · simp -implicitDefEqProofs only [go_sem, Nat.reduceBEq, Nat.reduceAdd, Nat.reduceSub, Nat.reduceMul, Nat.reduceLeDiff, reduceCtorEq, ↓reduceIte, Int.reduceLT, Int.reduceLE, Int.reduceEq, Int.reduceNe]
    refine CallVC.read (Γ := [gp]) (hcen (Γr := [gp] ++ Γr) (hx.mono (lk_r [gp] Γr))) ?_
    rintro v Γ' (⟨_, rfl, rfl⟩ | ⟨h0, _⟩)
    rotate_left
    · exact absurd h0 hne
    simp -implicitDefEqProofs only [go_sem, Nat.reduceBEq, Nat.reduceAdd, Nat.reduceSub, Nat.reduceMul, Nat.reduceLeDiff, reduceCtorEq, ↓reduceIte, Int.reduceLT, Int.reduceLE, Int.reduceEq, Int.reduceNe]
    refine CallVC.read (Γ := [gp]) (census_total (Γr := [gp] ++ Γr) (hx.mono (lk_r [gp] Γr)) hn) ?_
    rintro v Γ' ⟨rfl, rfl⟩
    rw [if_neg hne]
    simp -implicitDefEqProofs only [go_sem, Nat.reduceBEq, Nat.reduceAdd, Nat.reduceSub, Nat.reduceMul, Nat.reduceLeDiff, reduceCtorEq, ↓reduceIte, Int.reduceLT, Int.reduceLE, Int.reduceEq, Int.reduceNe]
    refine CallVC.read (Γ := [gp]) (ref_total (Γr := [gp] ++ Γr) (hx.mono (lk_r [gp] Γr)) (hcen (hx.mono (lk_r [gp] Γr)))) ?_
    rintro v Γ' ⟨rfl, rfl⟩
    rw [if_neg hne]
    simp -implicitDefEqProofs only [decide_true, go_sem, Nat.reduceBEq, Nat.reduceAdd, Nat.reduceSub, Nat.reduceMul, Nat.reduceLeDiff, reduceCtorEq, ↓reduceIte, Int.reduceLT, Int.reduceLE, Int.reduceEq, Int.reduceNe]
    refine CallVC.read (Γ := [gp]) (equal_rows (Γr := [gp] ++ Γr) (xs := []) (ys := []) SlOk.nil SlOk.nil) ?_
    rintro v Γ' ⟨rfl, rfl⟩
    simp -implicitDefEqProofs only [decide_true, go_sem, Nat.reduceBEq, Nat.reduceAdd, Nat.reduceSub, Nat.reduceMul, Nat.reduceLeDiff, reduceCtorEq, ↓reduceIte, Int.reduceLT, Int.reduceLE, Int.reduceEq, Int.reduceNe]
    refine CallVC.read (Γ := [gp]) (census_least (Γr := [gp] ++ Γr) (hx.mono (lk_r [gp] Γr))) ?_
    rintro v Γ' (⟨hk, rfl, rfl⟩ | ⟨hk, g8, A8, c8, o8, rfl, rfl, hS8, hL8⟩)
    · simp -implicitDefEqProofs only [go_sem, Nat.reduceBEq, Nat.reduceAdd, Nat.reduceSub, Nat.reduceMul, Nat.reduceLeDiff, reduceCtorEq, ↓reduceIte, Int.reduceLT, Int.reduceLE, Int.reduceEq, Int.reduceNe]
      refine CallVC.read (Γ := [gp]) (rule_fault (Γr := [gp] ++ Γr) (hx.mono (lk_r [gp] Γr))) ?_
      rintro v Γ' ⟨rfl, rfl⟩
      simp -implicitDefEqProofs only [decide_true, go_sem, Nat.reduceBEq, Nat.reduceAdd, Nat.reduceSub, Nat.reduceMul, Nat.reduceLeDiff, reduceCtorEq, ↓reduceIte, Int.reduceLT, Int.reduceLE, Int.reduceEq, Int.reduceNe]
      refine ⟨fun _ => Up.to [] (Ent.nil _) ?_, fun h => absurd h hk⟩
      subst hR
      exact ⟨rfl, rfl⟩
    · simp -implicitDefEqProofs only [go_sem, Nat.reduceBEq, Nat.reduceAdd, Nat.reduceSub, Nat.reduceMul, Nat.reduceLeDiff, reduceCtorEq, ↓reduceIte, Int.reduceLT, Int.reduceLE, Int.reduceEq, Int.reduceNe]
      refine CallVC.read (rule_fault (Γr := _) (hx.mono (lk_r (g8 :: [gp]) Γr))) ?_
      rintro v Γ' ⟨rfl, rfl⟩
      rw [hk]
      simp -implicitDefEqProofs only [decide_true, go_sem, Nat.reduceBEq, Nat.reduceAdd, Nat.reduceSub, Nat.reduceMul, Nat.reduceLeDiff, reduceCtorEq, ↓reduceIte, Int.reduceLT, Int.reduceLE, Int.reduceEq, Int.reduceNe]
      refine CallVC.read (ref_shortest (ckF_ok hk) (hx.mono (lk_r (g8 :: [gp]) Γr))) ?_
      rintro v Γ' ⟨g9, A9, c9, o9, rfl, rfl, hS9, hL9⟩
      obtain rfl := hL8.uniq hL9
      simp -implicitDefEqProofs only [go_sem, Nat.reduceBEq, Nat.reduceAdd, Nat.reduceSub, Nat.reduceMul, Nat.reduceLeDiff, reduceCtorEq, ↓reduceIte, Int.reduceLT, Int.reduceLE, Int.reduceEq, Int.reduceNe]
      refine CallVC.read (slices_equal (hS8.mono (lk_sub fun g hg => by simp at hg; subst hg; simp)) (hS9.mono (lk_sub fun g hg => by simp at hg; subst hg; simp))) ?_
      rintro v Γ' ⟨rfl, rfl⟩
      simp -implicitDefEqProofs only [decide_true, go_sem, Nat.reduceBEq, Nat.reduceAdd, Nat.reduceSub, Nat.reduceMul, Nat.reduceLeDiff, reduceCtorEq, ↓reduceIte, Int.reduceLT, Int.reduceLE, Int.reduceEq, Int.reduceNe]
      refine Up.to [] (Ent.nil _) ?_
      subst hR
      exact ⟨rfl, rfl⟩
  · simp -implicitDefEqProofs only [go_sem, Nat.reduceBEq, Nat.reduceAdd, Nat.reduceSub, Nat.reduceMul, Nat.reduceLeDiff, reduceCtorEq, ↓reduceIte, Int.reduceLT, Int.reduceLE, Int.reduceEq, Int.reduceNe]
    refine CallVC.read (hcen (hx.mono (lk_r [g1, gp] Γr))) ?_
    rintro v Γ' (⟨hne, _⟩ | ⟨_, g2, A2, c2, rfl, rfl, hS2⟩)
    · exact absurd h0 hne
    simp -implicitDefEqProofs only [go_sem, Nat.reduceBEq, Nat.reduceAdd, Nat.reduceSub, Nat.reduceMul, Nat.reduceLeDiff, reduceCtorEq, ↓reduceIte, Int.reduceLT, Int.reduceLE, Int.reduceEq, Int.reduceNe]
    refine CallVC.read (census_total (hx.mono (lk_r [g2, g1, gp] Γr)) hn) ?_
    rintro v Γ' ⟨rfl, rfl⟩
    rw [if_pos h0]
    simp -implicitDefEqProofs only [go_sem, Nat.reduceBEq, Nat.reduceAdd, Nat.reduceSub, Nat.reduceMul, Nat.reduceLeDiff, reduceCtorEq, ↓reduceIte, Int.reduceLT, Int.reduceLE, Int.reduceEq, Int.reduceNe]
    refine CallVC.read (ref_total (hx.mono (lk_r [g2, g1, gp] Γr)) (hcen (hx.mono (lk_r [g2, g1, gp] Γr)))) ?_
    rintro v Γ' ⟨rfl, rfl⟩
    rw [if_pos h0, h0]
    simp -implicitDefEqProofs only [decide_true, go_sem, Nat.reduceBEq, Nat.reduceAdd, Nat.reduceSub, Nat.reduceMul, Nat.reduceLeDiff, reduceCtorEq, ↓reduceIte, Int.reduceLT, Int.reduceLE, Int.reduceEq, Int.reduceNe]
    have hcl : (cenRows g n.toNat g.ns.toNat).length = g.ns.toNat := by simp [cenRows]
    have heq := equal_rows (Γr := [g2, g1, gp] ++ Γr) (hS1.mono (lk_sub fun g hg => by simp at hg; subst hg; simp)) (hS2.mono (lk_sub fun g hg => by simp at hg; subst hg; simp))
    rw [hcl] at heq
    refine CallVC.read heq ?_
    rintro v Γ' ⟨rfl, rfl⟩
    simp -implicitDefEqProofs only [decide_true, go_sem, Nat.reduceBEq, Nat.reduceAdd, Nat.reduceSub, Nat.reduceMul, Nat.reduceLeDiff, reduceCtorEq, ↓reduceIte, Int.reduceLT, Int.reduceLE, Int.reduceEq, Int.reduceNe]
    refine CallVC.read (Γ := [g2, g1, gp]) (census_least (Γr := [g2, g1, gp] ++ Γr) (hx.mono (lk_r [g2, g1, gp] Γr))) ?_
    rintro v Γ' (⟨hk, rfl, rfl⟩ | ⟨hk, g8, A8, c8, o8, rfl, rfl, hS8, hL8⟩)
    · simp -implicitDefEqProofs only [go_sem, Nat.reduceBEq, Nat.reduceAdd, Nat.reduceSub, Nat.reduceMul, Nat.reduceLeDiff, reduceCtorEq, ↓reduceIte, Int.reduceLT, Int.reduceLE, Int.reduceEq, Int.reduceNe]
      refine CallVC.read (Γ := [g2, g1, gp]) (rule_fault (Γr := [g2, g1, gp] ++ Γr) (hx.mono (lk_r [g2, g1, gp] Γr))) ?_
      rintro v Γ' ⟨rfl, rfl⟩
      simp -implicitDefEqProofs only [decide_true, go_sem, Nat.reduceBEq, Nat.reduceAdd, Nat.reduceSub, Nat.reduceMul, Nat.reduceLeDiff, reduceCtorEq, ↓reduceIte, Int.reduceLT, Int.reduceLE, Int.reduceEq, Int.reduceNe]
      refine ⟨fun _ => Up.to [] (Ent.nil _) ?_, fun h => absurd h hk⟩
      subst hR
      exact ⟨rfl, rfl⟩
    · simp -implicitDefEqProofs only [go_sem, Nat.reduceBEq, Nat.reduceAdd, Nat.reduceSub, Nat.reduceMul, Nat.reduceLeDiff, reduceCtorEq, ↓reduceIte, Int.reduceLT, Int.reduceLE, Int.reduceEq, Int.reduceNe]
      refine CallVC.read (rule_fault (Γr := _) (hx.mono (lk_r (g8 :: [g2, g1, gp]) Γr))) ?_
      rintro v Γ' ⟨rfl, rfl⟩
      rw [hk]
      simp -implicitDefEqProofs only [decide_true, go_sem, Nat.reduceBEq, Nat.reduceAdd, Nat.reduceSub, Nat.reduceMul, Nat.reduceLeDiff, reduceCtorEq, ↓reduceIte, Int.reduceLT, Int.reduceLE, Int.reduceEq, Int.reduceNe]
      refine CallVC.read (ref_shortest (ckF_ok hk) (hx.mono (lk_r (g8 :: [g2, g1, gp]) Γr))) ?_
      rintro v Γ' ⟨g9, A9, c9, o9, rfl, rfl, hS9, hL9⟩
      obtain rfl := hL8.uniq hL9
      simp -implicitDefEqProofs only [go_sem, Nat.reduceBEq, Nat.reduceAdd, Nat.reduceSub, Nat.reduceMul, Nat.reduceLeDiff, reduceCtorEq, ↓reduceIte, Int.reduceLT, Int.reduceLE, Int.reduceEq, Int.reduceNe]
      refine CallVC.read (slices_equal (hS8.mono (lk_sub fun g hg => by simp at hg; subst hg; simp)) (hS9.mono (lk_sub fun g hg => by simp at hg; subst hg; simp))) ?_
      rintro v Γ' ⟨rfl, rfl⟩
      simp -implicitDefEqProofs only [decide_true, go_sem, Nat.reduceBEq, Nat.reduceAdd, Nat.reduceSub, Nat.reduceMul, Nat.reduceLeDiff, reduceCtorEq, ↓reduceIte, Int.reduceLT, Int.reduceLE, Int.reduceEq, Int.reduceNe]
      refine Up.to [] (Ent.nil _) ?_
      subst hR
      exact ⟨rfl, rfl⟩
end Go.Proofs.Ytniobbepliknmaa.V
/- Numbers of trees, symbols from the left: the plain law of the reference's rows; no condition. -/
namespace Go.Proofs.Ytniobbepliknmaa.V
open Go
set_option linter.unusedVariables false
set_option linter.unusedSimpArgs false

/-- one symbol more behind -/
def convT (T : Int → Nat → Nat) (acc : Nat → Nat) (s : Sy) (k : Nat) : Nat := sumN (fun x => acc x * symT T s (k - x)) (k + 1)
def preT (T : Int → Nat → Nat) : (Nat → Nat) → List Sy → Nat → Nat
  | acc, [] => acc
  | acc, s :: l => preT T (convT T acc s) l
theorem preT_snoc (T : Int → Nat → Nat) (s : Sy) : ∀ (l : List Sy) (acc : Nat → Nat), preT T acc (l ++ [s]) = convT T (preT T acc l) s
  | [], acc => rfl
  | x :: l, acc => preT_snoc T s l (convT T acc x)
theorem preT_row (T : Int → Nat → Nat) : ∀ (l : List Sy) (acc : Nat → Nat) (k : Nat), preT T acc l k = sumN (fun x => acc x * rowT T l (k - x)) (k + 1)
  | [], acc, k => by
    show acc k = sumN (fun x => acc x * (if k - x = 0 then 1 else 0)) (k + 1)
    rw [sumN, Nat.sub_self, if_pos rfl, Nat.mul_one, sumN_congr (g := fun _ => 0) (fun x hx => by rw [if_neg (by omega), Nat.mul_zero]), sumN_zero, Nat.zero_add]
  | s :: l, acc, k => by
    rw [preT, preT_row T l (convT T acc s) k]
    have h1 : sumN (fun x => convT T acc s x * rowT T l (k - x)) (k + 1) = sumN (fun x => sumN (fun y => acc y * (symT T s (x - y) * rowT T l (k - y - (x - y)))) (x + 1)) (k + 1) := by
      refine sumN_congr fun x hx => ?_
      unfold convT
      rw [← sumN_mul]
      refine sumN_congr fun y hy => ?_
      rw [show k - y - (x - y) = k - x by omega, Nat.mul_assoc]
    have h2 := sumN_tri (fun y z => acc y * (symT T s z * rowT T l (k - y - z))) k
    rw [h1, h2]
    refine sumN_congr fun y hy => ?_
    rw [show rowT T (s :: l) (k - y) = sumN (fun j => symT T s j * rowT T l (k - y - j)) (k - y + 1) from rfl, ← sumN_mulL]
/-- one tree of no symbols -/
def oneT (k : Nat) : Nat := if k = 0 then 1 else 0
theorem preT_one (T : Int → Nat → Nat) (l : List Sy) (k : Nat) : preT T oneT l k = rowT T l k := by
  rw [preT_row, sumN_front, sumN_congr (g := fun _ => 0) (fun x _ => by simp [oneT]), sumN_zero]
  simp [oneT]
theorem convT_le {T T' : Int → Nat → Nat} (h : LeT T T') {acc acc' : Nat → Nat} (ha : ∀ k, acc k ≤ acc' k) (s : Sy) (k : Nat) : convT T acc s k ≤ convT T' acc' s k :=
  sumN_le fun x _ => Nat.mul_le_mul (ha x) (symT_le h s _)
theorem preT_le {T T' : Int → Nat → Nat} (h : LeT T T') : ∀ (l : List Sy) {acc acc' : Nat → Nat}, (∀ k, acc k ≤ acc' k) → ∀ k, preT T acc l k ≤ preT T' acc' l k
  | [], acc, acc', ha, k => ha k
  | s :: l, acc, acc', ha, k => preT_le h l (convT_le h ha s) k
/-- the part of a sum that is done when x and y stand in the loops of the reference's row: of k as many as doneX -/
def doneX (x y k : Nat) : Nat := if x ≤ k ∧ k < x + y then x + 1 else min x (k + 1)
theorem doneX_step {x y k : Nat} : doneX x (y + 1) k = if k = x + y then doneX x y k + 1 else doneX x y k := by
  unfold doneX
  by_cases e : k = x + y
  · subst e
    rw [if_pos rfl, if_pos (by omega), if_neg (by omega)]
    omega
  · rw [if_neg e]
    by_cases h : x ≤ k ∧ k < x + y
    · rw [if_pos h, if_pos (by omega)]
    · rw [if_neg h, if_neg (by omega)]
theorem doneX_at {x y : Nat} : doneX x y (x + y) = x := by
  unfold doneX
  rw [if_neg (by omega)]
  omega
theorem doneX_next {n x k : Nat} (hk : k ≤ n) : doneX x (n + 1 - x) k = doneX (x + 1) 0 k := by
  unfold doneX
  by_cases h : x ≤ k
  · rw [if_pos (by omega), if_neg (by omega)]
    omega
  · rw [if_neg (by omega), if_neg (by omega)]
    omega
theorem doneX_zero (k : Nat) : doneX 0 0 k = 0 := by simp [doneX]
theorem doneX_all {n k : Nat} (hk : k ≤ n) : doneX (n + 1) 0 k = k + 1 := by
  unfold doneX
  rw [if_neg (by omega)]
  omega
end Go.Proofs.Ytniobbepliknmaa.V
/- Tables by the levels of trees: the plain law of the reference's census; no condition. -/
namespace Go.Proofs.Ytniobbepliknmaa.V
open Go
set_option linter.unusedVariables false
set_option linter.unusedSimpArgs false

/-- three tables of so many rows of n + 1: how many, whether any, whether more than -/
structure Tri (N n : Nat) (F F' : Nat → Nat → Nat) (M : List (List Int)) (A J : List (List Bool)) : Prop where
  m : Shp N (n + 1) M
  a : Shp N (n + 1) A
  j : Shp N (n + 1) J
  at' : ∀ x k, x < N → k ≤ n → matI M x k = (capN (F x k) : Nat) ∧ (mat A x k = true ↔ 0 < F x k) ∧ (mat J x k = true ↔ F' x k < F x k)
theorem Tri.congr {N n : Nat} {F F' G G' : Nat → Nat → Nat} {M : List (List Int)} {A J : List (List Bool)} (h : Tri N n F F' M A J) (h1 : ∀ x k, x < N → k ≤ n → F x k = G x k) (h2 : ∀ x k, x < N → k ≤ n → F' x k = G' x k) : Tri N n G G' M A J :=
  ⟨h.m, h.a, h.j, fun x k q1 q2 => by rw [← h1 x k q1 q2, ← h2 x k q1 q2]; exact h.at' x k q1 q2⟩
theorem shpR {α : Type} (a b : Nat) (z : α) : Shp a b (List.replicate a (List.replicate b z)) := ⟨by simp, fun r hr => by simp at hr; rw [hr.2]; simp⟩
def updF (F : Nat → Nat → Nat) (x y v : Nat) (a k : Nat) : Nat := if a = x ∧ k = y then v else F a k
theorem mat_setR {w : List (List Bool)} {a b : Nat} (h : Shp a b w) {x y : Nat} (hx : x < a) (hy : y < b) {row : List Bool} (hr : w[x]? = some row) (v : Bool) (x' y' : Nat) : mat (w.set x (row.set y v)) x' y' = if x' = x ∧ y' = y then v else mat w x' y' := by
  have e : w.getD x [] = row := by simp [List.getD_eq_getElem?_getD, hr]
  have := mat_setS h hx hy v x' y'
  rwa [e] at this
theorem Tri.set {N n : Nat} {F F' : Nat → Nat → Nat} {M : List (List Int)} {A J : List (List Bool)} (h : Tri N n F F' M A J) {x y : Nat} (hx : x < N) (hy : y ≤ n) {rm : List Int} {ra rj : List Bool} (hm : M[x]? = some rm) (ha : A[x]? = some ra) (hj : J[x]? = some rj)
    {v v' : Nat} {c : Int} {b d : Bool} (hc : c = (capN v : Nat)) (hb : b = true ↔ 0 < v) (hd : d = true ↔ v' < v) : Tri N n (updF F x y v) (updF F' x y v') (M.set x (rm.set y c)) (A.set x (ra.set y b)) (J.set x (rj.set y d)) := by
  have hml : rm.length = n + 1 := h.m.2 _ (List.mem_of_getElem? hm)
  have hal : ra.length = n + 1 := h.a.2 _ (List.mem_of_getElem? ha)
  have hjl : rj.length = n + 1 := h.j.2 _ (List.mem_of_getElem? hj)
  refine ⟨h.m.set x (by simp [hml]), h.a.set x (by simp [hal]), h.j.set x (by simp [hjl]), fun x' k q1 q2 => ?_⟩
  rw [matI_set h.m hx (by omega) hm, mat_setR h.a hx (by omega) ha, mat_setR h.j hx (by omega) hj]
  unfold updF
  by_cases e : x' = x ∧ k = y
  · rw [if_pos e, if_pos e, if_pos e, if_pos e, if_pos e]
    exact ⟨hc, hb, hd⟩
  · rw [if_neg e, if_neg e, if_neg e, if_neg e, if_neg e]
    exact h.at' x' k q1 q2
theorem capN_zero : capN 0 = 0 := rfl
theorem Tri.zero (N n : Nat) : Tri N n (fun _ _ => 0) (fun _ _ => 0) (List.replicate N (List.replicate (n + 1) (0 : Int))) (List.replicate N (List.replicate (n + 1) false)) (List.replicate N (List.replicate (n + 1) false)) := by
  refine ⟨shpR _ _ _, shpR _ _ _, shpR _ _ _, fun x k hx hk => ?_⟩
  have e1 : matI (List.replicate N (List.replicate (n + 1) (0 : Int))) x k = 0 := by
    unfold matI
    rw [List.getD_eq_getElem?_getD, List.getD_eq_getElem?_getD, List.getElem?_replicate, if_pos hx]
    simp only [Option.getD_some]
    rw [List.getElem?_replicate, if_pos (by omega)]
    rfl
  have e2 : mat (List.replicate N (List.replicate (n + 1) false)) x k = false := by
    unfold mat
    rw [List.getD_eq_getElem?_getD, List.getD_eq_getElem?_getD, List.getElem?_replicate, if_pos hx]
    simp only [Option.getD_some]
    rw [List.getElem?_replicate, if_pos (by omega)]
    rfl
  rw [e1, e2]
  simp [capN_zero]
/-- rows of terminals only -/
def oneR (l : List Sy) (k : Nat) : Nat := if (∀ s ∈ l, s.t = true) ∧ k = l.length then 1 else 0
theorem sumN_one (f : Nat → Nat) (c : Nat) : ∀ n, sumN (fun j => (if j = c then 1 else 0) * f j) n = if c < n then f c else 0
  | 0 => rfl
  | n + 1 => by
    rw [sumN, sumN_one f c n]
    by_cases e : n = c
    · subst e
      rw [if_pos rfl, if_neg (by omega), if_pos (by omega)]
      omega
    · rw [if_neg e]
      by_cases q : c < n
      · rw [if_pos q, if_pos (by omega)]; omega
      · rw [if_neg q, if_neg (by omega)]; omega
theorem rowT_zero : ∀ (l : List Sy) (k : Nat), rowT (fun _ _ => 0) l k = oneR l k
  | [], k => by
    show (if k = 0 then 1 else 0) = oneR [] k
    unfold oneR
    by_cases e : k = 0 <;> simp [e]
  | s :: l, k => by
    show sumN (fun j => symT (fun _ _ => 0) s j * rowT (fun _ _ => 0) l (k - j)) (k + 1) = _
    obtain ⟨st, sn⟩ := s
    cases st with
    | false =>
      rw [sumN_congr (g := fun _ => 0) (fun j _ => by show (if false = true then _ else 0) * _ = 0; simp), sumN_zero]
      unfold oneR
      rw [if_neg]
      intro h
      have := h.1 _ (List.mem_cons_self ..)
      cases this
    | true =>
      rw [sumN_congr (g := fun j => (if j = 1 then 1 else 0) * oneR l (k - j)) (fun j _ => by rw [rowT_zero l]; rfl), sumN_one (fun j => oneR l (k - j)) 1]
      unfold oneR
      by_cases h : ∀ s ∈ l, s.t = true
      · have h' : ∀ s ∈ (⟨true, sn⟩ : Sy) :: l, s.t = true := fun s hs => by
          rcases List.mem_cons.1 hs with e | e
          · rw [e]
          · exact h s e
        by_cases e : k = l.length + 1
        · rw [if_pos (by omega), if_pos ⟨h, by omega⟩, if_pos ⟨h', by simp [e]⟩]
        · rw [if_neg (c := _ ∧ k = _) (fun q => e (by simpa using q.2))]
          split
          · rw [if_neg (fun q => e (by omega))]
          · rfl
      · have h' : ¬ ∀ s ∈ (⟨true, sn⟩ : Sy) :: l, s.t = true := fun q => h fun s hs => q s (List.mem_cons_of_mem _ hs)
        rw [if_neg (c := _ ∧ k = _) (fun q => h' q.1)]
        split
        · rw [if_neg (fun q => h q.1)]
        · rfl
theorem oneR_le (l : List Sy) (k : Nat) : oneR l k ≤ 1 := by unfold oneR; split <;> omega
/-- of so many rules, the trees of one level -/
def firT (g : Gr) (i : Nat) (a k : Nat) : Nat := sumR (cntT g 0) (a : Int) k (g.rs.take i)
theorem firT_succ {g : Gr} {i : Nat} (hi : i < g.rs.length) (a k : Nat) : firT g (i + 1) a k = firT g i a k + (if g.rs[i].l = (a : Int) then oneR g.rs[i].r k else 0) := by
  unfold firT
  rw [List.take_succ_eq_append_getElem hi, sumR_snoc]
  show _ = _ + (if _ then oneR _ _ else 0)
  rw [← rowT_zero]
  rfl
theorem firT_le {g : Gr} (a k : Nat) : ∀ i, i ≤ g.rs.length → firT g i a k ≤ i
  | 0, _ => by simp [firT, sumR]
  | i + 1, h => by
    rw [firT_succ (by omega)]
    have := firT_le (g := g) a k i (by omega)
    have := oneR_le g.rs[i].r k
    split <;> omega
theorem firT_all (g : Gr) (a k : Nat) : firT g g.rs.length a k = cntT g 1 (a : Int) k := by
  unfold firT
  rw [List.take_length]
  rfl
/-- of so many rules, the trees of one level more -/
def nxtT (g : Gr) (T : Int → Nat → Nat) (c : Nat → Nat) (a k : Nat) : Nat := sumR T (a : Int) k (g.rs.take (c k))
def updC (c : Nat → Nat) (y v : Nat) (k : Nat) : Nat := if k = y then v else c k
theorem nxtT_upd {g : Gr} {T : Int → Nat → Nat} {c : Nat → Nat} {i y x : Nat} (hi : i < g.rs.length) (hc : c y = i) (hx : g.rs[i].l = (x : Int)) (a k : Nat) : updF (nxtT g T c) x y (nxtT g T c x y + rowT T g.rs[i].r y) a k = nxtT g T (updC c y (i + 1)) a k := by
  unfold updF nxtT updC
  by_cases e : k = y
  · subst e
    rw [if_pos rfl, hc, List.take_succ_eq_append_getElem hi, sumR_snoc]
    by_cases e2 : a = x
    · subst e2
      rw [if_pos ⟨rfl, rfl⟩, if_pos hx]
    · rw [if_neg (fun q => e2 q.1), if_neg (fun q => e2 (by omega))]
      omega
  · rw [if_neg (fun q => e q.2), if_neg e]
theorem nxtT_all (g : Gr) (h : Nat) {c : Nat → Nat} {n : Nat} (hc : ∀ k, k ≤ n → c k = g.rs.length) (a k : Nat) (hk : k ≤ n) : nxtT g (cntT g h) c a k = cntT g (h + 1) (a : Int) k := by
  unfold nxtT
  rw [hc k hk, List.take_length]
  rfl
end Go.Proofs.Ytniobbepliknmaa.V
/- Rows of numbers of trees, symbol by symbol: the plain law of the reference's row; no condition. -/
namespace Go.Proofs.Ytniobbepliknmaa.V
open Go
set_option linter.unusedVariables false
set_option linter.unusedSimpArgs false

/-- three rows of n + 1 -/
structure Row3 (n : Nat) (F F' : Nat → Nat) (m : List Int) (a j : List Bool) : Prop where
  ml : m.length = n + 1
  al : a.length = n + 1
  jl : j.length = n + 1
  at' : ∀ k, k ≤ n → m.getD k (-1) = (capN (F k) : Nat) ∧ (a.getD k false = true ↔ 0 < F k) ∧ (j.getD k false = true ↔ F' k < F k)
theorem Row3.congr {n : Nat} {F F' G G' : Nat → Nat} {m : List Int} {a j : List Bool} (h : Row3 n F F' m a j) (h1 : ∀ k, k ≤ n → F k = G k) (h2 : ∀ k, k ≤ n → F' k = G' k) : Row3 n G G' m a j :=
  ⟨h.ml, h.al, h.jl, fun k hk => by rw [← h1 k hk, ← h2 k hk]; exact h.at' k hk⟩
theorem Row3.get {n : Nat} {F F' : Nat → Nat} {m : List Int} {a j : List Bool} (h : Row3 n F F' m a j) {k : Nat} (hk : k ≤ n) (h1 : k < m.length) (h2 : k < a.length) (h3 : k < j.length) : m[k] = (capN (F k) : Nat) ∧ (a[k] = true ↔ 0 < F k) ∧ (j[k] = true ↔ F' k < F k) := by
  have := h.at' k hk
  simpa [List.getD_eq_getElem?_getD, h1, h2, h3] using this
def upd1 (F : Nat → Nat) (y v : Nat) (k : Nat) : Nat := if k = y then v else F k
theorem getD_putL {α : Type} (l : List α) (y k : Nat) (v d : α) (hy : y < l.length) : (l.set y v).getD k d = if k = y then v else l.getD k d := by
  simp only [List.getD_eq_getElem?_getD, List.getElem?_set]
  by_cases e : y = k
  · subst e; simp [hy]
  · have : ¬ k = y := fun q => e q.symm
    simp [e, this]
theorem Row3.set {n : Nat} {F F' : Nat → Nat} {m : List Int} {a j : List Bool} (h : Row3 n F F' m a j) {y : Nat} (hy : y ≤ n) {v v' : Nat} {c : Int} {b d : Bool} (hc : c = (capN v : Nat)) (hb : b = true ↔ 0 < v) (hd : d = true ↔ v' < v) :
    Row3 n (upd1 F y v) (upd1 F' y v') (m.set y c) (a.set y b) (j.set y d) := by
  have h1 := h.ml
  have h2 := h.al
  have h3 := h.jl
  refine ⟨by simp [h1], by simp [h2], by simp [h3], fun k hk => ?_⟩
  rw [getD_putL _ _ _ _ _ (by omega), getD_putL _ _ _ _ _ (by omega), getD_putL _ _ _ _ _ (by omega)]
  unfold upd1
  by_cases e : k = y
  · rw [if_pos e, if_pos e, if_pos e, if_pos e, if_pos e]
    exact ⟨hc, hb, hd⟩
  · rw [if_neg e, if_neg e, if_neg e, if_neg e, if_neg e]
    exact h.at' k hk
theorem Row3.zero (n : Nat) : Row3 n (fun _ => 0) (fun _ => 0) (List.replicate (n + 1) 0) (List.replicate (n + 1) false) (List.replicate (n + 1) false) := by
  refine ⟨by simp, by simp, by simp, fun k hk => ?_⟩
  have : k < n + 1 := by omega
  simp [List.getD_eq_getElem?_getD, List.getElem?_replicate, this, capN_zero]
theorem Row3.one (n : Nat) : Row3 n oneT oneT ((List.replicate (n + 1) 0).set 0 1) ((List.replicate (n + 1) false).set 0 true) (List.replicate (n + 1) false) := by
  have := (Row3.zero n).set (y := 0) (v := 1) (v' := 1) (c := 1) (b := true) (d := false) (Nat.zero_le _) rfl (by simp) (by simp)
  have e : (List.replicate (n + 1) false).set 0 false = List.replicate (n + 1) false := by simp [List.replicate_succ]
  rw [e] at this
  exact this.congr (fun k _ => by unfold upd1 oneT; split <;> rfl) (fun k _ => by unfold upd1 oneT; split <;> rfl)
/-- what stands in the new rows when x and y stand in the loops -/
def accX (P : Nat → Nat) (T : Int → Nat → Nat) (s : Sy) (x y k : Nat) : Nat := sumN (fun z => P z * symT T s (k - z)) (doneX x y k)
theorem accX_zero (P : Nat → Nat) (T : Int → Nat → Nat) (s : Sy) (k : Nat) : accX P T s 0 0 k = 0 := by unfold accX; rw [doneX_zero]; rfl
theorem accX_step (P : Nat → Nat) (T : Int → Nat → Nat) (s : Sy) (x y k : Nat) : upd1 (accX P T s x y) (x + y) (accX P T s x y (x + y) + P x * symT T s y) k = accX P T s x (y + 1) k := by
  unfold upd1 accX
  rw [doneX_step]
  by_cases e : k = x + y
  · subst e
    rw [if_pos rfl, if_pos rfl, doneX_at, sumN, show x + y - x = y by omega]
  · rw [if_neg e, if_neg e]
theorem accX_next (P : Nat → Nat) (T : Int → Nat → Nat) (s : Sy) {n x k : Nat} (hk : k ≤ n) : accX P T s x (n + 1 - x) k = accX P T s (x + 1) 0 k := by unfold accX; rw [doneX_next hk]
theorem accX_all (P : Nat → Nat) (T : Int → Nat → Nat) (s : Sy) {n k : Nat} (hk : k ≤ n) : accX P T s (n + 1) 0 k = convT T P s k := by unfold accX convT; rw [doneX_all hk]
theorem acc_le {P P' : Nat → Nat} {T T' : Int → Nat → Nat} (hP : ∀ k, P' k ≤ P k) (hT : LeT T' T) (s : Sy) (x y k : Nat) : accX P' T' s x y k ≤ accX P T s x y k :=
  sumN_le fun z _ => Nat.mul_le_mul (hP z) (symT_le hT s _)
/-- the symbol's numbers -/
structure SymV (T T' : Int → Nat → Nat) (s : Sy) (y : Nat) (c : Int) (have' top : Bool) : Prop where
  c : c = (capN (symT T s y) : Nat)
  h : have' = true ↔ 0 < symT T s y
  t : top = true ↔ symT T' s y < symT T s y
theorem capN_one : capN 1 = 1 := rfl
theorem SymV.term (T T' : Int → Nat → Nat) (sn : Int) (y : Nat) : SymV T T' ⟨true, sn⟩ y (if y = 1 then 1 else 0) (decide (y = 1)) false := by
  have e : ∀ T, symT T ⟨true, sn⟩ y = if y = 1 then 1 else 0 := fun T => by unfold symT; rfl
  refine ⟨?_, ?_, by rw [e, e]; simp⟩ <;> rw [e] <;> by_cases h : y = 1 <;> simp [h, capN_one, capN_zero]
/-- one step -/
theorem row_step {n : Nat} {P P' : Nat → Nat} {T T' : Int → Nat → Nat} (hP : ∀ k, P' k ≤ P k) (hT : LeT T' T) {s : Sy} {x y : Nat} (hxy : x + y ≤ n) {m : List Int} {a j : List Bool} (h : Row3 n (accX P T s x y) (accX P' T' s x y) m a j)
    {c c0 : Int} {hv tp ab jb : Bool} (hs : SymV T T' s y c hv tp) (hc : c0 = (capN (accX P T s x y (x + y) + P x * symT T s y) : Nat))
    {ax jx : Bool} (hax : ax = true ↔ 0 < P x) (hjx : jx = true ↔ P' x < P x) {a0 j0 : Bool} (ha0 : a0 = true ↔ 0 < accX P T s x y (x + y)) (hj0 : j0 = true ↔ accX P' T' s x y (x + y) < accX P T s x y (x + y))
    (hab : ab = true ↔ a0 = true ∨ (ax = true ∧ hv = true)) (hjb : jb = true ↔ j0 = true ∨ (jx = true ∧ hv = true) ∨ (ax = true ∧ tp = true)) :
    Row3 n (accX P T s x (y + 1)) (accX P' T' s x (y + 1)) (m.set (x + y) c0) (a.set (x + y) ab) (j.set (x + y) jb) := by
  have h1 := acc_le hP hT s x y (x + y)
  have h2 := hP x
  have h3 := symT_le hT s y
  have h4 := Nat.mul_le_mul h2 h3
  refine (h.set (y := x + y) hxy (v := accX P T s x y (x + y) + P x * symT T s y) (v' := accX P' T' s x y (x + y) + P' x * symT T' s y) hc ?_ ?_).congr (fun k _ => accX_step P T s x y k) (fun k _ => accX_step P' T' s x y k)
  · rw [hab, ha0, hax, hs.h]
    constructor
    · rintro (q | ⟨q1, q2⟩)
      · omega
      · have := Nat.mul_pos q1 q2
        omega
    · intro q
      rcases Nat.eq_zero_or_pos (accX P T s x y (x + y)) with e | e
      · have hp : 0 < P x * symT T s y := by omega
        exact .inr ⟨Nat.pos_of_ne_zero fun e => by rw [e, Nat.zero_mul] at hp; omega, Nat.pos_of_ne_zero fun e => by rw [e, Nat.mul_zero] at hp; omega⟩
      · exact .inl e
  · rw [hjb, hj0, hjx, hax, hs.h, hs.t]
    have h5 := mul_lt_iff h2 h3
    constructor
    · rintro (q | q | q)
      · omega
      · have := h5.2 (.inl q)
        omega
      · have := h5.2 (.inr q)
        omega
    · intro q
      rcases Nat.lt_or_ge (accX P' T' s x y (x + y)) (accX P T s x y (x + y)) with e | e
      · exact .inl e
      · rcases h5.1 (by omega) with q | q
        · exact .inr (.inl q)
        · exact .inr (.inr q)
end Go.Proofs.Ytniobbepliknmaa.V
/- The text of (*parlance/parlref5.heights).row as a statement (slots: 0 t, 1 l, 2 t, 3 l, 7 many, 8 all, 9 just, 10 _, 11 s, 12 m, 13 a, 14 j, 15 x, 16 y, 17 c, 18 have, 19 top); no condition. -/
namespace Go.Proofs.Ytniobbepliknmaa.V
open Go
def S190_1 : Stmt :=
 .seq
 (.region
 [.mk (some 84) none (.fld 0 (.tmp 11)),.mk (some 85) none (.load false 1 (.tmp 84))]
 [0,7,8,9,11,12,13,14,15,16,17,18,19,42,43,44,70,71,85])
 (.cond (.tmp 85)
 (.seq
 (.region
 [.mk (some 86) none (.mv (.tmp 16)),
 .mk (some 87) none (.ibin .eql (.tmp 86) (.const (.int .i64 1)))]
 [0,7,8,9,11,12,13,14,15,16,17,18,19,42,43,44,70,71,87])
 (.cond (.tmp 87)
 (.region
 [.mk (some 17) none (.mv (.const (.int .i64 1))),
 .mk (some 18) none (.mv (.const (.bool true)))]
 [0,7,8,9,11,12,13,14,15,16,17,18,19,42,43,44,70,71])
 .skip))
 (.quiet
 [.mk (some 88) none (.mv (.tmp 0)),.mk (some 89) none (.nilCheck (.tmp 88)),
 .mk (some 90) none (.fld 5 (.tmp 89)),
 .mk (some 91) none (.load false 1 (.tmp 90)),
 .mk (some 92) none (.fld 1 (.tmp 11)),
 .mk (some 93) none (.load false 1 (.tmp 92)),
 .mk (some 94) none (.idx 1 (.tmp 91) (.tmp 93)),
 .mk (some 95) none (.load false 1 (.tmp 94)),.mk (some 96) none (.mv (.tmp 16)),
 .mk (some 97) none (.idx 1 (.tmp 95) (.tmp 96)),
 .mk (some 98) none (.load false 1 (.tmp 97)),.mk (some 99) none (.mv (.tmp 0)),
 .mk (some 100) none (.nilCheck (.tmp 99)),
 .mk (some 101) none (.fld 6 (.tmp 100)),
 .mk (some 102) none (.load false 1 (.tmp 101)),
 .mk (some 103) none (.fld 1 (.tmp 11)),
 .mk (some 104) none (.load false 1 (.tmp 103)),
 .mk (some 105) none (.idx 1 (.tmp 102) (.tmp 104)),
 .mk (some 106) none (.load false 1 (.tmp 105)),
 .mk (some 107) none (.mv (.tmp 16)),
 .mk (some 108) none (.idx 1 (.tmp 106) (.tmp 107)),
 .mk (some 109) none (.load false 1 (.tmp 108)),
 .mk (some 110) none (.mv (.tmp 0)),.mk (some 111) none (.nilCheck (.tmp 110)),
 .mk (some 112) none (.fld 7 (.tmp 111)),
 .mk (some 113) none (.load false 1 (.tmp 112)),
 .mk (some 114) none (.fld 1 (.tmp 11)),
 .mk (some 115) none (.load false 1 (.tmp 114)),
 .mk (some 116) none (.idx 1 (.tmp 113) (.tmp 115)),
 .mk (some 117) none (.load false 1 (.tmp 116)),
 .mk (some 118) none (.mv (.tmp 16)),
 .mk (some 119) none (.idx 1 (.tmp 117) (.tmp 118)),
 .mk (some 120) none (.load false 1 (.tmp 119)),
 .mk (some 17) none (.mv (.tmp 98)),.mk (some 18) none (.mv (.tmp 109)),
 .mk (some 19) none (.mv (.tmp 120))]
 [0,7,8,9,11,12,13,14,15,16,17,18,19,42,43,44,70,71]))
def S190_2 : Stmt :=
 .seq
 (.tree
 (.q (false,.mk (some 121) none (.mv (.tmp 12)))
 (.q (false,.mk (some 122) none (.mv (.tmp 15)))
 (.q (false,.mk (some 123) none (.mv (.tmp 16)))
 (.q (false,.mk (some 125) none (.mv (.tmp 12)))
 (.q (false,.mk (some 126) none (.mv (.tmp 15)))
 (.q (false,.mk (some 127) none (.mv (.tmp 16)))
 (.q (false,.mk (some 131) none (.mv (.tmp 7)))
 (.q (false,.mk (some 132) none (.mv (.tmp 15)))
 (.q (false,.mk (some 135) none (.mv (.tmp 17)))
 (.q (false,.mk (some 124) none (.ibin .add (.tmp 122) (.tmp 123)))
 (.q (false,.mk (some 128) none (.ibin .add (.tmp 126) (.tmp 127)))
 (.q (false,.mk (some 133) none (.idx 1 (.tmp 131) (.tmp 132)))
 (.q (false,.mk (some 129) none (.idx 1 (.tmp 125) (.tmp 128)))
 (.q (false,.mk (some 134) none (.load false 1 (.tmp 133)))
 (.q
 (false,
 .mk (some 136) none (.ibin .mul (.tmp 134) (.tmp 135)))
 (.alt (false,.mk (some 130) none (.load false 1 (.tmp 129)))
 (.alt
 (false,.mk (some 137) none (.call (.func 153) [.tmp 136]))
 (.q
 (false,
 .mk (some 138) none
 (.ibin .add (.tmp 130) (.tmp 137)))
 (.alt
 (false,
 .mk (some 139) none (.call (.func 153) [.tmp 138]))
 (.q
 (false,
 .mk (some 140) none (.idx 1 (.tmp 121) (.tmp 124)))
 (.alt
 (false,
 .mk none none (.store 1 (.tmp 140) (.tmp 139)))
 .fin .no))
 .no))
 .no)
 (.alt
 (false,.mk (some 137) none (.call (.func 153) [.tmp 136]))
 (.alt (false,.mk (some 130) none (.load false 1 (.tmp 129)))
 (.q
 (false,
 .mk (some 138) none
 (.ibin .add (.tmp 130) (.tmp 137)))
 (.alt
 (false,
 .mk (some 139) none (.call (.func 153) [.tmp 138]))
 (.q
 (false,
 .mk (some 140) none
 (.idx 1 (.tmp 121) (.tmp 124)))
 (.alt
 (false,
 .mk none none (.store 1 (.tmp 140) (.tmp 139)))
 .fin .no))
 .no))
 .no)
 .no)))))))))))))))))
 [0,7,8,9,11,12,13,14,15,16,18,19,42,43,44,70,71])
 (.seq
 (.region
 [.mk (some 141) none (.mv (.tmp 13)),.mk (some 142) none (.mv (.tmp 15)),
 .mk (some 143) none (.mv (.tmp 16)),
 .mk (some 144) none (.ibin .add (.tmp 142) (.tmp 143)),
 .mk (some 145) none (.mv (.tmp 13)),.mk (some 146) none (.mv (.tmp 15)),
 .mk (some 147) none (.mv (.tmp 16)),
 .mk (some 148) none (.ibin .add (.tmp 146) (.tmp 147)),
 .mk (some 149) none (.idx 1 (.tmp 145) (.tmp 148)),
 .mk (some 150) none (.load false 1 (.tmp 149)),
 .mk (some 151) none (.mv (.tmp 150)),
 .mk (some 152) (some (151,false)) (.mv (.tmp 8)),
 .mk (some 153) (some (151,false)) (.mv (.tmp 15)),
 .mk (some 154) (some (151,false)) (.idx 1 (.tmp 152) (.tmp 153)),
 .mk (some 155) (some (151,false)) (.load false 1 (.tmp 154)),
 .mk (some 156) (some (151,false)) (.mv (.tmp 155)),
 .mk (some 157) (some (156,true)) (.mv (.tmp 18)),
 .mk (some 158) (some (151,false))
 (.pick (.tmp 156) (.tmp 157) (.const (.bool false))),
 .mk (some 159) none (.pick (.tmp 151) (.const (.bool true)) (.tmp 158)),
 .mk (some 160) none (.idx 1 (.tmp 141) (.tmp 144)),
 .mk none none (.store 1 (.tmp 160) (.tmp 159))]
 [0,7,8,9,11,12,13,14,15,16,18,19,42,43,44,70,71])
 (.region
 [.mk (some 161) none (.mv (.tmp 14)),.mk (some 162) none (.mv (.tmp 15)),
 .mk (some 163) none (.mv (.tmp 16)),
 .mk (some 164) none (.ibin .add (.tmp 162) (.tmp 163)),
 .mk (some 165) none (.mv (.tmp 14)),.mk (some 166) none (.mv (.tmp 15)),
 .mk (some 167) none (.mv (.tmp 16)),
 .mk (some 168) none (.ibin .add (.tmp 166) (.tmp 167)),
 .mk (some 169) none (.idx 1 (.tmp 165) (.tmp 168)),
 .mk (some 170) none (.load false 1 (.tmp 169)),
 .mk (some 171) none (.mv (.tmp 170)),
 .mk (some 172) (some (171,false)) (.mv (.tmp 9)),
 .mk (some 173) (some (171,false)) (.mv (.tmp 15)),
 .mk (some 174) (some (171,false)) (.idx 1 (.tmp 172) (.tmp 173)),
 .mk (some 175) (some (171,false)) (.load false 1 (.tmp 174)),
 .mk (some 176) (some (171,false)) (.mv (.tmp 175)),
 .mk (some 177) (some (176,true)) (.mv (.tmp 18)),
 .mk (some 178) (some (171,false))
 (.pick (.tmp 176) (.tmp 177) (.const (.bool false))),
 .mk (some 179) none (.pick (.tmp 171) (.const (.bool true)) (.tmp 178)),
 .mk (some 180) none (.mv (.tmp 179)),
 .mk (some 181) (some (180,false)) (.mv (.tmp 8)),
 .mk (some 182) (some (180,false)) (.mv (.tmp 15)),
 .mk (some 183) (some (180,false)) (.idx 1 (.tmp 181) (.tmp 182)),
 .mk (some 184) (some (180,false)) (.load false 1 (.tmp 183)),
 .mk (some 185) (some (180,false)) (.mv (.tmp 184)),
 .mk (some 186) (some (185,true)) (.mv (.tmp 19)),
 .mk (some 187) (some (180,false))
 (.pick (.tmp 185) (.tmp 186) (.const (.bool false))),
 .mk (some 188) none (.pick (.tmp 180) (.const (.bool true)) (.tmp 187)),
 .mk (some 189) none (.idx 1 (.tmp 161) (.tmp 164)),
 .mk none none (.store 1 (.tmp 189) (.tmp 188))]
 [0,7,8,9,11,12,13,14,15,16,42,43,44,70,71]))
def S190_3 : Stmt :=
 .block 5
 (.seq
 (.region
 [.mk (some 17) none (.mv (.const (.int .i64 0))),
 .mk (some 18) none (.mv (.const (.bool false))),
 .mk (some 19) none (.mv (.const (.bool false)))]
 [0,7,8,9,11,12,13,14,15,16,17,18,19,42,43,44,70,71])
 (.join S190_1 S190_2 [17,18,19] [0,7,8,9,11,12,13,14,15,16,42,43,44,70,71]))
def S190_4 : Stmt :=
 .region
 [.mk (some 82) none (.mv (.tmp 16)),
 .mk (some 83) none (.ibin .add (.tmp 82) (.const (.int .i64 1))),
 .mk (some 16) none (.mv (.tmp 83))]
 [0,7,8,9,11,12,13,14,15,16,42,43,44,70,71]
def S190_5 : Stmt :=
 .seq
 (.seq
 (.region
 [.mk (some 74) none (.mv (.tmp 15)),.mk (some 75) none (.mv (.tmp 16)),
 .mk (some 76) none (.ibin .add (.tmp 74) (.tmp 75)),
 .mk (some 77) none (.mv (.tmp 0)),.mk (some 78) none (.nilCheck (.tmp 77)),
 .mk (some 79) none (.fld 4 (.tmp 78)),
 .mk (some 80) none (.load false 1 (.tmp 79)),
 .mk (some 81) none (.ibin .leq (.tmp 76) (.tmp 80))]
 [0,7,8,9,11,12,13,14,15,16,42,43,44,70,71,81])
 (.cond (.tmp 81) .skip (.exit 4)))
 (.join S190_3 S190_4 [] [0,7,8,9,11,12,13,14,15,16,42,43,44,70,71])
def S190_6 : Stmt :=
 .seq
 (.region [.mk (some 72) none (.ibin .lss (.tmp 71) (.tmp 70))]
 [0,7,8,9,11,12,13,14,42,43,44,70,71,72])
 (.seq (.cond (.tmp 72) .skip (.exit 2))
 (.seq
 (.block 3
 (.seq
 (.region
 [.mk (some 73) none (.mv (.tmp 71)),.mk (some 15) none (.mv (.tmp 73))]
 [0,7,8,9,11,12,13,14,15,42,43,44,70,71])
 (.seq
 (.region [.mk (some 16) none (.mv (.const (.int .i64 0)))]
 [0,7,8,9,11,12,13,14,15,16,42,43,44,70,71])
 (.block 4 (.loop S190_5 [16] [0,7,8,9,11,12,13,14,15,42,43,44,70,71])))))
 (.region
 [.mk (some 190) none (.ibin .add (.tmp 71) (.const (.int .i64 1))),
 .mk (some 71) none (.mv (.tmp 190))]
 [0,7,8,9,11,12,13,14,42,43,44,70,71])))
def S190_7 : Stmt :=
 .seq
 (.region [.mk (some 45) none (.ibin .lss (.tmp 44) (.tmp 43))]
 [0,7,8,9,42,43,44,45])
 (.seq (.cond (.tmp 45) .skip (.exit 0))
 (.seq
 (.block 1
 (.seq
 (.region
 [.mk (some 46) none (.idx 2 (.tmp 42) (.tmp 44)),
 .mk (some 47) none (.load true 2 (.tmp 46)),
 .mk (some 11) none
 (.alloc true 39 (.agg (Array.mk [.bool false,.int .i64 0]))),
 .mk none none (.store 2 (.tmp 11) (.tmp 47))]
 [0,7,8,9,11,42,43,44])
 (.seq
 (.tree
 (.q (false,.mk (some 48) none (.mv (.tmp 0)))
 (.q (false,.mk (some 54) none (.mv (.tmp 0)))
 (.q (false,.mk (some 60) none (.mv (.tmp 0)))
 (.q (false,.mk (some 49) none (.nilCheck (.tmp 48)))
 (.q (false,.mk (some 55) none (.nilCheck (.tmp 54)))
 (.q (false,.mk (some 61) none (.nilCheck (.tmp 60)))
 (.q (false,.mk (some 50) none (.fld 4 (.tmp 49)))
 (.q (false,.mk (some 56) none (.fld 4 (.tmp 55)))
 (.q (false,.mk (some 62) none (.fld 4 (.tmp 61)))
 (.q (false,.mk (some 51) none (.load false 1 (.tmp 50)))
 (.q (false,.mk (some 57) none (.load false 1 (.tmp 56)))
 (.q (false,.mk (some 63) none (.load false 1 (.tmp 62)))
 (.q
 (false,
 .mk (some 52) none
 (.ibin .add (.tmp 51)
 (.const (.int .i64 1))))
 (.q
 (false,
 .mk (some 58) none
 (.ibin .add (.tmp 57)
 (.const (.int .i64 1))))
 (.q
 (false,
 .mk (some 64) none
 (.ibin .add (.tmp 63)
 (.const (.int .i64 1))))
 (.alt
 (false,
 .mk (some 53) none
 (.mk 3 1 8 (.int .i64 0) (.tmp 52)
 (.tmp 52)))
 (.q (false,.mk (some 12) none (.mv (.tmp 53)))
 (.alt
 (false,
 .mk (some 59) none
 (.mk 4 1 1 (.bool false) (.tmp 58)
 (.tmp 58)))
 (.q (false,.mk (some 13) none (.mv (.tmp 59)))
 (.alt
 (false,
 .mk (some 65) none
 (.mk 4 1 1 (.bool false) (.tmp 64)
 (.tmp 64)))
 (.q (false,.mk (some 14) none (.mv (.tmp 65)))
 .fin)
 .no))
 (.alt
 (false,
 .mk (some 65) none
 (.mk 4 1 1 (.bool false) (.tmp 64)
 (.tmp 64)))
 (.alt
 (false,
 .mk (some 59) none
 (.mk 4 1 1 (.bool false) (.tmp 58)
 (.tmp 58)))
 (.q (false,.mk (some 13) none (.mv (.tmp 59)))
 (.q (false,.mk (some 14) none (.mv (.tmp 65)))
 .fin))
 .no)
 .no)))
 (.alt
 (false,
 .mk (some 59) none
 (.mk 4 1 1 (.bool false) (.tmp 58) (.tmp 58)))
 (.alt
 (false,
 .mk (some 53) none
 (.mk 3 1 8 (.int .i64 0) (.tmp 52)
 (.tmp 52)))
 (.q (false,.mk (some 12) none (.mv (.tmp 53)))
 (.q (false,.mk (some 13) none (.mv (.tmp 59)))
 (.alt
 (false,
 .mk (some 65) none
 (.mk 4 1 1 (.bool false) (.tmp 64)
 (.tmp 64)))
 (.q (false,.mk (some 14) none (.mv (.tmp 65)))
 .fin)
 .no)))
 (.alt
 (false,
 .mk (some 65) none
 (.mk 4 1 1 (.bool false) (.tmp 64)
 (.tmp 64)))
 (.alt
 (false,
 .mk (some 53) none
 (.mk 3 1 8 (.int .i64 0) (.tmp 52)
 (.tmp 52)))
 (.q (false,.mk (some 12) none (.mv (.tmp 53)))
 (.q (false,.mk (some 13) none (.mv (.tmp 59)))
 (.q
 (false,.mk (some 14) none (.mv (.tmp 65)))
 .fin)))
 .no)
 .no))
 (.alt
 (false,
 .mk (some 65) none
 (.mk 4 1 1 (.bool false) (.tmp 64)
 (.tmp 64)))
 (.alt
 (false,
 .mk (some 53) none
 (.mk 3 1 8 (.int .i64 0) (.tmp 52)
 (.tmp 52)))
 (.q (false,.mk (some 12) none (.mv (.tmp 53)))
 (.alt
 (false,
 .mk (some 59) none
 (.mk 4 1 1 (.bool false) (.tmp 58)
 (.tmp 58)))
 (.q (false,.mk (some 13) none (.mv (.tmp 59)))
 (.q
 (false,.mk (some 14) none (.mv (.tmp 65)))
 .fin))
 .no))
 (.alt
 (false,
 .mk (some 59) none
 (.mk 4 1 1 (.bool false) (.tmp 58)
 (.tmp 58)))
 (.alt
 (false,
 .mk (some 53) none
 (.mk 3 1 8 (.int .i64 0) (.tmp 52)
 (.tmp 52)))
 (.q (false,.mk (some 12) none (.mv (.tmp 53)))
 (.q
 (false,.mk (some 13) none (.mv (.tmp 59)))
 (.q
 (false,.mk (some 14) none (.mv (.tmp 65)))
 .fin)))
 .no)
 .no))
 .no))))))))))))))))))
 [0,7,8,9,11,12,13,14,42,43,44])
 (.seq
 (.seq
 (.region
 [.mk (some 66) none (.mv (.tmp 0)),
 .mk (some 67) none (.nilCheck (.tmp 66)),
 .mk (some 68) none (.fld 4 (.tmp 67)),
 .mk (some 69) none (.load false 1 (.tmp 68)),
 .mk (some 70) none
 (.ibin .add (.tmp 69) (.const (.int .i64 1))),
 .mk (some 71) none (.mv (.const (.int .i64 0)))]
 [0,7,8,9,11,12,13,14,42,43,44,70,71])
 (.block 2 (.loop S190_6 [71] [0,7,8,9,11,12,13,14,42,43,44,70])))
 (.region
 [.mk (some 191) none (.mv (.tmp 12)),.mk (some 192) none (.mv (.tmp 13)),
 .mk (some 193) none (.mv (.tmp 14)),.mk (some 7) none (.mv (.tmp 191)),
 .mk (some 8) none (.mv (.tmp 192)),.mk (some 9) none (.mv (.tmp 193))]
 [0,7,8,9,42,43,44])))))
 (.region
 [.mk (some 194) none (.ibin .add (.tmp 44) (.const (.int .i64 1))),
 .mk (some 44) none (.mv (.tmp 194))]
 [0,7,8,9,42,43,44])))
def S190_0 : Stmt :=
 .seq
 (.region
 [.mk (some 4) none (.mv (.const (.slice none 0 0))),
 .mk (some 5) none (.mv (.const (.slice none 0 0))),
 .mk (some 6) none (.mv (.const (.slice none 0 0)))]
 [0,1])
 (.seq
 (.tree
 (.q (false,.mk (some 20) none (.mv (.tmp 0)))
 (.q (false,.mk (some 26) none (.mv (.tmp 0)))
 (.q (false,.mk (some 32) none (.mv (.tmp 0)))
 (.q (false,.mk (some 21) none (.nilCheck (.tmp 20)))
 (.q (false,.mk (some 27) none (.nilCheck (.tmp 26)))
 (.q (false,.mk (some 33) none (.nilCheck (.tmp 32)))
 (.q (false,.mk (some 22) none (.fld 4 (.tmp 21)))
 (.q (false,.mk (some 28) none (.fld 4 (.tmp 27)))
 (.q (false,.mk (some 34) none (.fld 4 (.tmp 33)))
 (.q (false,.mk (some 23) none (.load false 1 (.tmp 22)))
 (.q (false,.mk (some 29) none (.load false 1 (.tmp 28)))
 (.q (false,.mk (some 35) none (.load false 1 (.tmp 34)))
 (.q
 (false,
 .mk (some 24) none
 (.ibin .add (.tmp 23) (.const (.int .i64 1))))
 (.q
 (false,
 .mk (some 30) none
 (.ibin .add (.tmp 29) (.const (.int .i64 1))))
 (.q
 (false,
 .mk (some 36) none
 (.ibin .add (.tmp 35) (.const (.int .i64 1))))
 (.alt
 (false,
 .mk (some 25) none
 (.mk 3 1 8 (.int .i64 0) (.tmp 24) (.tmp 24)))
 (.q (false,.mk (some 7) none (.mv (.tmp 25)))
 (.alt
 (false,
 .mk (some 31) none
 (.mk 4 1 1 (.bool false) (.tmp 30) (.tmp 30)))
 (.q (false,.mk (some 8) none (.mv (.tmp 31)))
 (.alt
 (false,
 .mk (some 37) none
 (.mk 4 1 1 (.bool false) (.tmp 36) (.tmp 36)))
 (.q (false,.mk (some 9) none (.mv (.tmp 37))) .fin)
 .no))
 (.alt
 (false,
 .mk (some 37) none
 (.mk 4 1 1 (.bool false) (.tmp 36) (.tmp 36)))
 (.alt
 (false,
 .mk (some 31) none
 (.mk 4 1 1 (.bool false) (.tmp 30) (.tmp 30)))
 (.q (false,.mk (some 8) none (.mv (.tmp 31)))
 (.q (false,.mk (some 9) none (.mv (.tmp 37))) .fin))
 .no)
 .no)))
 (.alt
 (false,
 .mk (some 31) none
 (.mk 4 1 1 (.bool false) (.tmp 30) (.tmp 30)))
 (.alt
 (false,
 .mk (some 25) none
 (.mk 3 1 8 (.int .i64 0) (.tmp 24)
 (.tmp 24)))
 (.q (false,.mk (some 7) none (.mv (.tmp 25)))
 (.q (false,.mk (some 8) none (.mv (.tmp 31)))
 (.alt
 (false,
 .mk (some 37) none
 (.mk 4 1 1 (.bool false) (.tmp 36) (.tmp 36)))
 (.q (false,.mk (some 9) none (.mv (.tmp 37))) .fin)
 .no)))
 (.alt
 (false,
 .mk (some 37) none
 (.mk 4 1 1 (.bool false) (.tmp 36) (.tmp 36)))
 (.alt
 (false,
 .mk (some 25) none
 (.mk 3 1 8 (.int .i64 0) (.tmp 24)
 (.tmp 24)))
 (.q (false,.mk (some 7) none (.mv (.tmp 25)))
 (.q (false,.mk (some 8) none (.mv (.tmp 31)))
 (.q (false,.mk (some 9) none (.mv (.tmp 37)))
 .fin)))
 .no)
 .no))
 (.alt
 (false,
 .mk (some 37) none
 (.mk 4 1 1 (.bool false) (.tmp 36) (.tmp 36)))
 (.alt
 (false,
 .mk (some 25) none
 (.mk 3 1 8 (.int .i64 0) (.tmp 24)
 (.tmp 24)))
 (.q (false,.mk (some 7) none (.mv (.tmp 25)))
 (.alt
 (false,
 .mk (some 31) none
 (.mk 4 1 1 (.bool false) (.tmp 30) (.tmp 30)))
 (.q (false,.mk (some 8) none (.mv (.tmp 31)))
 (.q (false,.mk (some 9) none (.mv (.tmp 37)))
 .fin))
 .no))
 (.alt
 (false,
 .mk (some 31) none
 (.mk 4 1 1 (.bool false) (.tmp 30) (.tmp 30)))
 (.alt
 (false,
 .mk (some 25) none
 (.mk 3 1 8 (.int .i64 0) (.tmp 24)
 (.tmp 24)))
 (.q (false,.mk (some 7) none (.mv (.tmp 25)))
 (.q (false,.mk (some 8) none (.mv (.tmp 31)))
 (.q (false,.mk (some 9) none (.mv (.tmp 37)))
 .fin)))
 .no)
 .no))
 .no))))))))))))))))))
 [0,1,7,8,9])
 (.seq
 (.region
 [.mk (some 38) none (.mv (.tmp 7)),.mk (some 39) none (.mv (.tmp 8)),
 .mk (some 40) none (.idx 1 (.tmp 38) (.const (.int .i64 0))),
 .mk none none (.store 1 (.tmp 40) (.const (.int .i64 1))),
 .mk (some 41) none (.idx 1 (.tmp 39) (.const (.int .i64 0))),
 .mk none none (.store 1 (.tmp 41) (.const (.bool true)))]
 [0,1,7,8,9])
 (.seq
 (.seq
 (.region
 [.mk (some 42) none (.mv (.tmp 1)),.mk (some 43) none (.len false (.tmp 42)),
 .mk (some 44) none (.mv (.const (.int .i64 0)))]
 [0,7,8,9,42,43,44])
 (.block 0 (.loop S190_7 [7,8,9,44] [0,42,43])))
 (.seq
 (.region
 [.mk (some 195) none (.mv (.tmp 7)),.mk (some 196) none (.mv (.tmp 8)),
 .mk (some 197) none (.mv (.tmp 9)),.mk (some 4) none (.mv (.tmp 195)),
 .mk (some 5) none (.mv (.tmp 196)),.mk (some 6) none (.mv (.tmp 197))]
 [4,5,6])
 .ret))))
def S190 : FnS := ⟨198,[(4,none),(5,none),(6,none)],S190_0⟩
theorem tr190 : trFn Try.prog 190 [11] [[0,1],[0,1,7,8,9],[],[2,0,2,6,2,12,2,1,2,7,2,13,2,2,2,8,2,14,2,3,2,9,2,15,2,4,2,10,2,16,3,5,2,18,3,11,2,19,3,17,2,20,0,1,3,17,3,11,2,19,2,20,0,1,1,3,11,3,5,2,18,2,19,3,17,2,20,0,1,3,17,3,5,2,18,2,19,2,20,0,1,1,3,17,3,5,2,18,3,11,2,19,2,20,0,1,3,11,3,5,2,18,2,19,2,20,0,1,1,1],[],[],[0],[0,1],[0,1,2],[0,1,2,3],[0,1,2,3,4],[],[6],[6,7],[6,7,8],[6,7,8,9],[6,7,8,9,10],[],[12],[12,13],[12,13,14],[12,13,14,15],[12,13,14,15,16],[0,1,2,3,4,5],[0,1,2,3,4,5,6,7,8,9,10,11,18],[0,1,2,3,4,5,6,7,8,9,10,11,12,13,14,15,16,17,18,19],[0,1,7,8,9],[0,7,8,9,42,43,44],[7,8,9,44],[0,42,43],[0,7,8,9,42,43,44,45],[0,7,8,9,11,42,43,44],[0,7,8,9,11,12,13,14,42,43,44],[],[2,0,2,6,2,12,2,1,2,7,2,13,2,2,2,8,2,14,2,3,2,9,2,15,2,4,2,10,2,16,3,5,2,18,3,11,2,19,3,17,2,20,0,1,3,17,3,11,2,19,2,20,0,1,1,3,11,3,5,2,18,2,19,3,17,2,20,0,1,3,17,3,5,2,18,2,19,2,20,0,1,1,3,17,3,5,2,18,3,11,2,19,2,20,0,1,3,11,3,5,2,18,2,19,2,20,0,1,1,1],[],[],[0],[0,1],[0,1,2],[0,1,2,3],[0,1,2,3,4],[],[6],[6,7],[6,7,8],[6,7,8,9],[6,7,8,9,10],[],[12],[12,13],[12,13,14],[12,13,14,15],[12,13,14,15,16],[0,1,2,3,4,5],[0,1,2,3,4,5,6,7,8,9,10,11,18],[0,1,2,3,4,5,6,7,8,9,10,11,12,13,14,15,16,17,18,19],[0,7,8,9,11,12,13,14,42,43,44,70,71],[71],[0,7,8,9,11,12,13,14,42,43,44,70],[0,7,8,9,11,12,13,14,42,43,44,70,71,72],[0,7,8,9,11,12,13,14,15,42,43,44,70,71],[0,7,8,9,11,12,13,14,15,16,42,43,44,70,71],[16],[0,7,8,9,11,12,13,14,15,42,43,44,70,71],[0,7,8,9,11,12,13,14,15,16,42,43,44,70,71,81],[],[0,7,8,9,11,12,13,14,15,16,42,43,44,70,71],[0,7,8,9,11,12,13,14,15,16,17,18,19,42,43,44,70,71],[17,18,19],[0,7,8,9,11,12,13,14,15,16,42,43,44,70,71],[0,7,8,9,11,12,13,14,15,16,17,18,19,42,43,44,70,71,85],[0,7,8,9,11,12,13,14,15,16,17,18,19,42,43,44,70,71,87],[0,7,8,9,11,12,13,14,15,16,17,18,19,42,43,44,70,71],[0,7,8,9,11,12,13,14,15,16,17,18,19,42,43,44,70,71],[0,7,8,9,11,12,13,14,15,16,18,19,42,43,44,70,71],[],[2,0,2,1,2,2,2,4,2,5,2,6,2,10,2,11,2,14,2,3,2,7,2,12,2,8,2,13,2,15,3,9,3,16,2,17,3,18,2,19,3,20,0,1,1,1,3,16,3,9,2,17,3,18,2,19,3,20,0,1,1,1,1],[],[],[],[],[1,2],[],[],[],[5,6],[4,5,6,7],[4,5,6,7,8],[],[],[10,11],[10,11,12],[],[10,11,12,13,14],[10,11,12,13,14,15],[4,5,6,7,8,9,10,11,12,13,14,15,16],[4,5,6,7,8,9,10,11,12,13,14,15,16,17],[0,1,2,3,4,5,6,7,8,9,10,11,12,13,14,15,16,17,18],[0,1,2,3,4,5,6,7,8,9,10,11,12,13,14,15,16,17,18,19],[0,7,8,9,11,12,13,14,15,16,18,19,42,43,44,70,71],[0,7,8,9,11,12,13,14,15,16,42,43,44,70,71],[0,7,8,9,11,12,13,14,15,16,42,43,44,70,71],[0,7,8,9,11,12,13,14,42,43,44,70,71],[0,7,8,9,42,43,44],[0,7,8,9,42,43,44],[4,5,6]] = some S190 := by kernel_rfl
end Go.Proofs.Ytniobbepliknmaa.V
/- parlref5.heights: row walked; no condition. -/
namespace Go.Proofs.Ytniobbepliknmaa.V
open Go
set_option linter.unusedVariables false
set_option linter.unusedSimpArgs false
attribute [local go_sem] e_seq e_region e_quiet e_join e_loop e_cond e_block e_exit e_ret e_skip e_fin e_kseq e_snrm e_sret e_sex e_bnrm e_bret e_bex e_rnrm e_rret e_res e_condC e_nil e_g e_mv g_mv e_pick g_pick pickC_eq e_ibin g_ibin ibinC_eq e_sbin g_sbin e_beq g_beq beqC_eq e_nilq g_nilq nilqC_sl nilqC_pt nilqC_mp e_un g_un unC_not unC_neg e_conv g_conv convC_eq e_fld g_fld fldC_ref fldC_ptr e_nilCheck g_nilCheck nilCheckC_ref nilCheckC_ptr nilCheckC_fun e_field g_field fieldC_eq e_len g_len lenC_sl lenC_str e_extract g_extract extractC_eq e_mkFunc e_build g_build e_idiv g_idiv idivC_eq e_ishift g_ishift ishiftC_eq e_idx g_idx e_idxA g_idxA e_load g_load e_loadB g_loadB atB_ref atB_v g_mkFunc loadC_ref loadC_ptr loadB_eq e_slc g_slc e_box boxC_loc boxC_esc e_alloc allocC_loc allocC_esc e_buildS e_store storeC_ref storeC_ptr storeB_eq e_append e_appz e_mk mkC_eq e_call callC_eq e_fn g_fn fnC_eq fnV_min' fnV_max' fnV_rune' e_q g_q e_a e_n g_call g_box g_alloc g_buildS g_store g_append g_mk g_a g_n g_dead e_dead e_callK e_drawn e_tree e_finJ e_tk e_tfin e_tno e_nbt_q e_nbt_qn e_nbt_a e_nbt_an e_nbt_fin e_drawnB e_bxb_nil e_bxb e_stB_none e_stB_some boxSt_store bs_mv bs_pick bs_ibin bs_idiv bs_ishift bs_sbin bs_beq bs_nilq bs_un bs_conv bs_box bs_alloc bs_build bs_buildS bs_load bs_fld bs_nilCheck bs_idx bs_idxA bs_field bs_slc bs_len bs_append bs_appz bs_mk bs_call bs_extract bs_mkFunc bs_fn bs_q bs_a bs_n bs_loadB bs_dead isBox_box e_early_nil e_early_t e_early_f e_nob_nil e_nob_none e_nob_some isBox_dead isBox_v isBox_ref e_dnil e_dk e_ek e_finB vcOps_vc1 e_dcons e_tq e_ekt e_tearly e_talt e_dearly look_nil look_c proj_nil proj_c looks_nil looks_c zip_nil zip_c val_tmp val_const val_func slv_v slv_box slv_ref slot_tmp slot_const slot_func slotL_v slotL_box slotL_ref put_some put_none updBox_c boxSet_box gd_eq slotVals_nil slotVals_c slotVals_b boxV_box boxOn_box slotsOn_nil slotsOn_c slotsOn_b resV_one resV_two vals_nil vals_c allOn_nil allOn_c partOn_nil partOn_c partVals_nil partVals_c fits_nil fits_c fillL_nil fillL_c mkv_one mkv_agg cellsV_agg cellsV_int cellsV_bool cellsV_slice cellsV_string cellsV_pointer cellsV_func cellsV_nilf cellsV_map one'_nil one'_c oc_int oc_bool oc_slice oc_string oc_pointer oc_func oc_nilf oc_map setC_eq iv_add iv_sub iv_mul iv_eql iv_neq iv_lss iv_leq iv_gtr iv_geq iok_add iok_sub iok_mul iok_eql iok_neq iok_lss iok_leq iok_gtr iok_geq pickV_bool args0_nil args0_c bnd_none bnd_some imp_bt imp_bf imp_ebt imp_ebf imp_eb1 imp_np imp_pp beq_tt beq_tf beq_ft beq_ff cond_or cond_and e_round e_meet Int.le_refl Int.toNat_zero decide_true decide_false Bool.or_false Bool.false_or Bool.true_or Bool.or_true Bool.and_false Bool.false_and Bool.bne_false Bool.bne_true beq_iff_eq Int.cast_ofNat_Int not_false_eq_true not_true_eq_false false_and and_false false_implies true_implies true_and and_true Bool.true_and Bool.and_true Bool.not_true Bool.not_false forall_const implies_true List.take_zero List.drop_zero List.take_succ_cons List.drop_succ_cons List.take_nil List.drop_nil List.length_cons List.length_nil List.nil_append List.append_nil List.cons_append Int.toNat_natCast decide_eq_true_eq decide_eq_false_iff_not cond_true cond_false and_self List.getElem?_cons_zero List.getElem?_cons_succ List.set_cons_zero List.set_cons_succ Option.some.injEq exists_eq_left' Nat.zero_add Nat.add_zero Nat.mul_one imp_self true_or or_true or_false false_or Bool.or_eq_true Bool.or_eq_false_iff Bool.and_eq_true Bool.and_eq_false_iff Bool.not_eq_true' Bool.not_eq_false'

def htC (g : Gr) (n : Nat) (R : Option Addr) (cR bm ba bj : Nat) : List Value :=
  [.int .i64 g.ts, .int .i64 g.ns, .int .i64 g.st, .slice R g.rs.length cR, .int .i64 (n : Int), .slice (some ⟨bm, 0, none⟩) g.ns.toNat g.ns.toNat, .slice (some ⟨ba, 0, none⟩) g.ns.toNat g.ns.toNat, .slice (some ⟨bj, 0, none⟩) g.ns.toNat g.ns.toNat]
set_option maxHeartbeats 6400000 in
theorem heights_row {Γr : Ctx} {g : Gr} (V : VG g) {n : Nat} (hn : n ≤ 24) {R : Option Addr} {cR b bm ba bj : Nat} (hb : lk Γr b (.cells (htC g n R cR bm ba bj).toArray 193 (0, 0))) {T T' : Int → Nat → Nat} (hle : LeT T' T) {M : List (List Int)} {A J : List (List Bool)}
    (hI : Tri g.ns.toNat n (fun a => T (a : Int)) (fun a => T' (a : Int)) M A J) (hM : SlOk (lk Γr) (some ⟨bm, 0, none⟩) g.ns.toNat M) (hA : SlOk (lk Γr) (some ⟨ba, 0, none⟩) g.ns.toNat A) (hJ : SlOk (lk Γr) (some ⟨bj, 0, none⟩) g.ns.toNat J)
    {l : List Sy} {Al : Option Addr} {cl : Nat} (hl : SlOk (lk Γr) Al cl l) (h4 : l.length ≤ 4) (hs : ∀ s ∈ l, s.t = false → 0 ≤ s.n ∧ s.n < g.ns) :
    Ret Try.prog 190 [.pointer (some ⟨b, 0, none⟩), .slice Al l.length cl] Γr [] (fun v Γ => ∃ g1 g2 g3 b1 b2 b3 m a j, Γ = [g1, g2, g3] ∧ v = .tuple #[.slice (some ⟨b1, 0, none⟩) (n + 1) (n + 1), .slice (some ⟨b2, 0, none⟩) (n + 1) (n + 1), .slice (some ⟨b3, 0, none⟩) (n + 1) (n + 1)] ∧
      Arr g1 b1 3 m ∧ Arr g2 b2 4 a ∧ Arr g3 b3 4 j ∧ Row3 n (rowT T l) (rowT T' l) m a j) := by
  generalize hR : (fun (v : Value) (Γ : Ctx) => ∃ g1 g2 g3 b1 b2 b3 m a j, _) = R'
  refine ret_of_vc tr190 (Nat.le_of_ble_eq_true rfl) ?_
  simp -implicitDefEqProofs only [S190, S190_0, go_sem, Nat.reduceBEq, Nat.reduceAdd, Nat.reduceSub, Nat.reduceMul, Nat.reduceLeDiff, reduceCtorEq, ↓reduceIte, Int.reduceLT, Int.reduceLE, Int.reduceEq, Int.reduceNe]
  have hw : IntKind.i64.wrap ((n : Int) + 1) = ((n + 1 : Nat) : Int) := by rw [wrap_id (by omega) (by omega)]; rfl
  refine ⟨[], [], fun ψ Γ' => ∃ (g7 g8 g9 : PH) (b7 b8 b9 : Nat), ψ = [(0, .v true (.pointer (some ⟨b, 0, none⟩))), (1, .v true (.slice Al l.length cl)), (7, .v true (.slice (some ⟨b7, 0, none⟩) (n + 1) (n + 1))), (8, .v true (.slice (some ⟨b8, 0, none⟩) (n + 1) (n + 1))), (9, .v true (.slice (some ⟨b9, 0, none⟩) (n + 1) (n + 1)))] ∧
    Γ' = [g7, g8, g9] ∧ Arr g7 b7 3 (List.replicate (n + 1) (0 : Int)) ∧ Arr g8 b8 4 (List.replicate (n + 1) false) ∧ Arr g9 b9 4 (List.replicate (n + 1) false), Ent.refl _, ?_, ?_⟩
  · simp -implicitDefEqProofs only [hw, go_sem, Nat.reduceBEq, Nat.reduceAdd, Nat.reduceSub, Nat.reduceMul, Nat.reduceLeDiff, reduceCtorEq, ↓reduceIte, Int.reduceLT, Int.reduceLE, Int.reduceEq, Int.reduceNe]
    repeat' first
      | with_reducible exact True.intro
      | with_reducible refine And.intro ?_ ?_
      | with_reducible intro bk
      | (refine s_ld (j := 4) (cells_lk (lk_r [] _ _ _ hb)) (by simp [htC]) (by simp) ?_)
      | omega
      | simp -implicitDefEqProofs only [hw, htC, go_sem, Nat.reduceBEq, Nat.reduceAdd, Nat.reduceSub, Nat.reduceMul, Nat.reduceLeDiff, reduceCtorEq, ↓reduceIte, Int.reduceLT, Int.reduceLE, Int.reduceEq, Int.reduceNe]
    all_goals first
      | exact Up.sel [[0], [1], [2]] (by decide) fun _ _ => ⟨_, _, _, _, _, _, rfl, rfl, Arr.made (0 : Int) _ 3 (n + 1), Arr.made false _ 4 (n + 1), Arr.made false _ 4 (n + 1)⟩
      | exact Up.sel [[0], [2], [1]] (by decide) fun _ _ => ⟨_, _, _, _, _, _, rfl, rfl, Arr.made (0 : Int) _ 3 (n + 1), Arr.made false _ 4 (n + 1), Arr.made false _ 4 (n + 1)⟩
      | exact Up.sel [[1], [0], [2]] (by decide) fun _ _ => ⟨_, _, _, _, _, _, rfl, rfl, Arr.made (0 : Int) _ 3 (n + 1), Arr.made false _ 4 (n + 1), Arr.made false _ 4 (n + 1)⟩
      | exact Up.sel [[1], [2], [0]] (by decide) fun _ _ => ⟨_, _, _, _, _, _, rfl, rfl, Arr.made (0 : Int) _ 3 (n + 1), Arr.made false _ 4 (n + 1), Arr.made false _ 4 (n + 1)⟩
      | exact Up.sel [[2], [0], [1]] (by decide) fun _ _ => ⟨_, _, _, _, _, _, rfl, rfl, Arr.made (0 : Int) _ 3 (n + 1), Arr.made false _ 4 (n + 1), Arr.made false _ 4 (n + 1)⟩
      | exact Up.sel [[2], [1], [0]] (by decide) fun _ _ => ⟨_, _, _, _, _, _, rfl, rfl, Arr.made (0 : Int) _ 3 (n + 1), Arr.made false _ 4 (n + 1), Arr.made false _ 4 (n + 1)⟩
  · rintro ψ Γ' ⟨g7, g8, g9, b7, b8, b9, rfl, rfl, h7, h8, h9⟩
    simp -implicitDefEqProofs only [go_sem, Nat.reduceBEq, Nat.reduceAdd, Nat.reduceSub, Nat.reduceMul, Nat.reduceLeDiff, reduceCtorEq, ↓reduceIte, Int.reduceLT, Int.reduceLE, Int.reduceEq, Int.reduceNe]
    refine s_idx rfl (by omega) (by omega) ?_
    simp -implicitDefEqProofs only [go_sem, Nat.reduceBEq, Nat.reduceAdd, Nat.reduceSub, Nat.reduceMul, Nat.reduceLeDiff, reduceCtorEq, ↓reduceIte, Int.reduceLT, Int.reduceLE, Int.reduceEq, Int.reduceNe]
    refine s_storeA (ix := 0) (α := Int) 1 rfl h7 (i := 0) (by simp) ?_
    intro g7' h7' _
    simp -implicitDefEqProofs only [go_sem, Nat.reduceBEq, Nat.reduceAdd, Nat.reduceSub, Nat.reduceMul, Nat.reduceLeDiff, reduceCtorEq, ↓reduceIte, Int.reduceLT, Int.reduceLE, Int.reduceEq, Int.reduceNe]
    refine s_idx rfl (by omega) (by omega) ?_
    simp -implicitDefEqProofs only [go_sem, Nat.reduceBEq, Nat.reduceAdd, Nat.reduceSub, Nat.reduceMul, Nat.reduceLeDiff, reduceCtorEq, ↓reduceIte, Int.reduceLT, Int.reduceLE, Int.reduceEq, Int.reduceNe]
    refine s_storeA (ix := 1) (α := Bool) true rfl h8 (i := 0) (by simp) ?_
    intro g8' h8' _
    simp -implicitDefEqProofs only [go_sem, Nat.reduceBEq, Nat.reduceAdd, Nat.reduceSub, Nat.reduceMul, Nat.reduceLeDiff, reduceCtorEq, ↓reduceIte, Int.reduceLT, Int.reduceLE, Int.reduceEq, Int.reduceNe]
    refine s_loop (fun f vs Γ => ∃ (g1 g2 g3 : PH) (b1 b2 b3 : Nat) (m : List Int) (a j : List Bool) (i : Nat), vs = [.v true (.slice (some ⟨b1, 0, none⟩) (n + 1) (n + 1)), .v true (.slice (some ⟨b2, 0, none⟩) (n + 1) (n + 1)), .v true (.slice (some ⟨b3, 0, none⟩) (n + 1) (n + 1)), .v true (.int .i64 (i : Int))] ∧
        Γ = [g1, g2, g3] ∧ i + f = l.length ∧ Arr g1 b1 3 m ∧ Arr g2 b2 4 a ∧ Arr g3 b3 4 j ∧ Row3 n (preT T oneT (l.take i)) (preT T' oneT (l.take i)) m a j) l.length
      (Up.here ⟨g7', g8', g9, b7, b8, b9, _, _, _, 0, rfl, rfl, by omega, h7', h8', h9, Row3.one n⟩) ?_
    clear h7 h8 h9 h7' h8'
    rintro f vs Γ ⟨g1, g2, g3, b1, b2, b3, m, a, j, i, rfl, rfl, hif, h1, h2, h3, hRow⟩
    simp -implicitDefEqProofs only [S190_7, go_sem, Nat.reduceBEq, Nat.reduceAdd, Nat.reduceSub, Nat.reduceMul, Nat.reduceLeDiff, reduceCtorEq, ↓reduceIte, Int.reduceLT, Int.reduceLE, Int.reduceEq, Int.reduceNe]
    refine ⟨fun hlt => ?_, fun hge => ?_⟩
    · have hi : i < l.length := by omega
      have htk : l.take (i + 1) = l.take i ++ [l[i]] := List.take_succ_eq_append_getElem hi
      have hsr := hs _ (List.getElem_mem hi)
      obtain ⟨b0, o0, h0, hc0⟩ := hl.sy hi
      have hpre := preT_le hle (l.take i) (acc := oneT) (acc' := oneT) (fun _ => Nat.le_refl _)
      have hp1 : preT T oneT (l.take (i + 1)) = convT T (preT T oneT (l.take i)) l[i] := by rw [htk, preT_snoc]
      have hp2 : preT T' oneT (l.take (i + 1)) = convT T' (preT T' oneT (l.take i)) l[i] := by rw [htk, preT_snoc]
      generalize l[i] = s at *
      generalize preT T oneT (l.take i) = P at *
      generalize preT T' oneT (l.take i) = P' at *
      refine s_idx h0 (by omega) (by omega) ?_
      simp -implicitDefEqProofs only [go_sem, Nat.reduceBEq, Nat.reduceAdd, Nat.reduceSub, Nat.reduceMul, Nat.reduceLeDiff, reduceCtorEq, ↓reduceIte, Int.reduceLT, Int.reduceLE, Int.reduceEq, Int.reduceNe]
      refine s_ld0 (by simpa using hc0 _ (lk_r [g1, g2, g3] _)) (by simp) (by simp) ?_
      simp -implicitDefEqProofs only [go_sem, Nat.reduceBEq, Nat.reduceAdd, Nat.reduceSub, Nat.reduceMul, Nat.reduceLeDiff, reduceCtorEq, ↓reduceIte, Int.reduceLT, Int.reduceLE, Int.reduceEq, Int.reduceNe]
      intro bs
      refine ⟨[g1, g2, g3], [], fun ψ Γ' => ∃ (g4 g5 g6 : PH) (b4 b5 b6 : Nat), ψ = [(0, .v true (.pointer (some ⟨b, 0, none⟩))), (7, .v true (.slice (some ⟨b1, 0, none⟩) (n + 1) (n + 1))), (8, .v true (.slice (some ⟨b2, 0, none⟩) (n + 1) (n + 1))), (9, .v true (.slice (some ⟨b3, 0, none⟩) (n + 1) (n + 1))), (11, .box bs 39 [.bool s.t, .int .i64 s.n]),
          (12, .v true (.slice (some ⟨b4, 0, none⟩) (n + 1) (n + 1))), (13, .v true (.slice (some ⟨b5, 0, none⟩) (n + 1) (n + 1))), (14, .v true (.slice (some ⟨b6, 0, none⟩) (n + 1) (n + 1))), (42, .v true (.slice Al l.length cl)), (43, .v true (.int .i64 (l.length : Int))), (44, .v true (.int .i64 (i : Int)))] ∧
        Γ' = [g4, g5, g6, g1, g2, g3] ∧ Arr g4 b4 3 (List.replicate (n + 1) (0 : Int)) ∧ Arr g5 b5 4 (List.replicate (n + 1) false) ∧ Arr g6 b6 4 (List.replicate (n + 1) false), Ent.refl _, ?_, ?_⟩
      · simp -implicitDefEqProofs only [hw, go_sem, Nat.reduceBEq, Nat.reduceAdd, Nat.reduceSub, Nat.reduceMul, Nat.reduceLeDiff, reduceCtorEq, ↓reduceIte, Int.reduceLT, Int.reduceLE, Int.reduceEq, Int.reduceNe]
        repeat' first
          | with_reducible exact True.intro
          | with_reducible refine And.intro ?_ ?_
          | with_reducible intro bk
          | (refine s_ld (j := 4) (cells_lk (lk_r [g1, g2, g3] _ _ _ hb)) (by simp [htC]) (by simp) ?_)
          | omega
          | simp -implicitDefEqProofs only [hw, htC, go_sem, Nat.reduceBEq, Nat.reduceAdd, Nat.reduceSub, Nat.reduceMul, Nat.reduceLeDiff, reduceCtorEq, ↓reduceIte, Int.reduceLT, Int.reduceLE, Int.reduceEq, Int.reduceNe]
        all_goals first
        | exact Up.sel [[0], [1], [2], [3], [4], [5]] (by decide) fun _ _ => ⟨_, _, _, _, _, _, rfl, rfl, Arr.made (0 : Int) _ 3 (n + 1), Arr.made false _ 4 (n + 1), Arr.made false _ 4 (n + 1)⟩
        | exact Up.sel [[0], [2], [1], [3], [4], [5]] (by decide) fun _ _ => ⟨_, _, _, _, _, _, rfl, rfl, Arr.made (0 : Int) _ 3 (n + 1), Arr.made false _ 4 (n + 1), Arr.made false _ 4 (n + 1)⟩
        | exact Up.sel [[1], [0], [2], [3], [4], [5]] (by decide) fun _ _ => ⟨_, _, _, _, _, _, rfl, rfl, Arr.made (0 : Int) _ 3 (n + 1), Arr.made false _ 4 (n + 1), Arr.made false _ 4 (n + 1)⟩
        | exact Up.sel [[1], [2], [0], [3], [4], [5]] (by decide) fun _ _ => ⟨_, _, _, _, _, _, rfl, rfl, Arr.made (0 : Int) _ 3 (n + 1), Arr.made false _ 4 (n + 1), Arr.made false _ 4 (n + 1)⟩
        | exact Up.sel [[2], [0], [1], [3], [4], [5]] (by decide) fun _ _ => ⟨_, _, _, _, _, _, rfl, rfl, Arr.made (0 : Int) _ 3 (n + 1), Arr.made false _ 4 (n + 1), Arr.made false _ 4 (n + 1)⟩
        | exact Up.sel [[2], [1], [0], [3], [4], [5]] (by decide) fun _ _ => ⟨_, _, _, _, _, _, rfl, rfl, Arr.made (0 : Int) _ 3 (n + 1), Arr.made false _ 4 (n + 1), Arr.made false _ 4 (n + 1)⟩
      · rintro ψ Γ' ⟨g4, g5, g6, b4, b5, b6, rfl, rfl, h4', h5, h6⟩
        simp -implicitDefEqProofs only [go_sem, Nat.reduceBEq, Nat.reduceAdd, Nat.reduceSub, Nat.reduceMul, Nat.reduceLeDiff, reduceCtorEq, ↓reduceIte, Int.reduceLT, Int.reduceLE, Int.reduceEq, Int.reduceNe]
        refine s_ld (j := 4) (cells_lk (lk_r [g4, g5, g6, g1, g2, g3] _ _ _ hb)) (by simp [htC]) (by simp) ?_
        simp -implicitDefEqProofs only [hw, htC, go_sem, Nat.reduceBEq, Nat.reduceAdd, Nat.reduceSub, Nat.reduceMul, Nat.reduceLeDiff, reduceCtorEq, ↓reduceIte, Int.reduceLT, Int.reduceLE, Int.reduceEq, Int.reduceNe]
        refine s_loop (fun f2 vs Γ => ∃ (g4 g5 g6 : PH) (m2 : List Int) (a2 j2 : List Bool) (x : Nat), vs = [.v true (.int .i64 (x : Int))] ∧
            Γ = [g4, g5, g6, g1, g2, g3] ∧ x + f2 = n + 1 ∧ Arr g4 b4 3 m2 ∧ Arr g5 b5 4 a2 ∧ Arr g6 b6 4 j2 ∧ Row3 n (accX P T s x 0) (accX P' T' s x 0) m2 a2 j2) (n + 1)
          (Up.here ⟨g4, g5, g6, _, _, _, 0, rfl, rfl, by omega, h4', h5, h6, (Row3.zero n).congr (fun k _ => (accX_zero P T s k).symm) (fun k _ => (accX_zero P' T' s k).symm)⟩) ?_
        clear h4' h5 h6
        rintro f2 vs Γ ⟨g4, g5, g6, m2, a2, j2, x, rfl, rfl, hxf, h4', h5, h6, hAcc⟩
        simp -implicitDefEqProofs only [S190_6, go_sem, Nat.reduceBEq, Nat.reduceAdd, Nat.reduceSub, Nat.reduceMul, Nat.reduceLeDiff, reduceCtorEq, ↓reduceIte, Int.reduceLT, Int.reduceLE, Int.reduceEq, Int.reduceNe]
        refine ⟨fun hlt => ?_, fun hge => ?_⟩
        · have hx : x ≤ n := by omega
          refine s_loop (fun f3 vs Γ => ∃ (g4 g5 g6 : PH) (m2 : List Int) (a2 j2 : List Bool) (y : Nat), vs = [.v true (.int .i64 (y : Int))] ∧
              Γ = [g4, g5, g6, g1, g2, g3] ∧ x + y + f3 = n + 1 ∧ Arr g4 b4 3 m2 ∧ Arr g5 b5 4 a2 ∧ Arr g6 b6 4 j2 ∧ Row3 n (accX P T s x y) (accX P' T' s x y) m2 a2 j2) (n + 1 - x)
            (Up.here ⟨g4, g5, g6, _, _, _, 0, rfl, rfl, by omega, h4', h5, h6, hAcc⟩) ?_
          clear h4' h5 h6 hAcc
          rintro f3 vs Γ ⟨g4, g5, g6, m2, a2, j2, y, rfl, rfl, hyf, h4', h5, h6, hAcc⟩
          have hw2 : IntKind.i64.wrap ((x : Int) + (y : Int)) = ((x + y : Nat) : Int) := by rw [wrap_id (by omega) (by omega)]; rfl
          simp -implicitDefEqProofs only [S190_5, hw2, go_sem, Nat.reduceBEq, Nat.reduceAdd, Nat.reduceSub, Nat.reduceMul, Nat.reduceLeDiff, reduceCtorEq, ↓reduceIte, Int.reduceLT, Int.reduceLE, Int.reduceEq, Int.reduceNe]
          refine s_ld (j := 4) (cells_lk (lk_r [g4, g5, g6, g1, g2, g3] _ _ _ hb)) (by simp [htC]) (by simp) ?_
          simp -implicitDefEqProofs only [htC, go_sem, Nat.reduceBEq, Nat.reduceAdd, Nat.reduceSub, Nat.reduceMul, Nat.reduceLeDiff, reduceCtorEq, ↓reduceIte, Int.reduceLT, Int.reduceLE, Int.reduceEq, Int.reduceNe]
          refine ⟨fun hlt => ?_, fun hge => ?_⟩
          · have hxy : x + y ≤ n := by omega
            refine s_join (fun vs Γ => vs = [] ∧ ∃ (g4 g5 g6 : PH) (m2 : List Int) (a2 j2 : List Bool), Γ = [g4, g5, g6, g1, g2, g3] ∧ Arr g4 b4 3 m2 ∧ Arr g5 b5 4 a2 ∧ Arr g6 b6 4 j2 ∧ Row3 n (accX P T s x (y + 1)) (accX P' T' s x (y + 1)) m2 a2 j2) ?_ ?_
            · simp -implicitDefEqProofs only [S190_3, go_sem, Nat.reduceBEq, Nat.reduceAdd, Nat.reduceSub, Nat.reduceMul, Nat.reduceLeDiff, reduceCtorEq, ↓reduceIte, Int.reduceLT, Int.reduceLE, Int.reduceEq, Int.reduceNe]
              refine s_join (fun vs Γ => Γ = [g4, g5, g6, g1, g2, g3] ∧ ∃ (c : Int) (hv tp : Bool), vs = [.v true (.int .i64 c), .v true (.bool hv), .v true (.bool tp)] ∧ SymV T T' s y c hv tp) ?_ ?_
              · obtain ⟨st, sn⟩ := s
                cases st with
                | true =>
                  have hsy := SymV.term T T' sn y
                  simp -implicitDefEqProofs only [S190_1, go_sem, Nat.reduceBEq, Nat.reduceAdd, Nat.reduceSub, Nat.reduceMul, Nat.reduceLeDiff, reduceCtorEq, ↓reduceIte, Int.reduceLT, Int.reduceLE, Int.reduceEq, Int.reduceNe]
                  refine ⟨fun hy1 => Up.here ⟨rfl, _, _, _, rfl, ?_⟩, fun hy1 => Up.here ⟨rfl, _, _, _, rfl, ?_⟩⟩
                  · have : y = 1 := by omega
                    simpa [this] using hsy
                  · have : ¬ y = 1 := by omega
                    simpa [this] using hsy
                | false =>
                  have hsr := hsr rfl
                  obtain ⟨q, rfl⟩ : ∃ q : Nat, sn = q := ⟨sn.toNat, by simp at hsr; omega⟩
                  have hq : q < g.ns.toNat := by simp at hsr; omega
                  have hMl := hI.m.1
                  have hAl := hI.a.1
                  have hJl := hI.j.1
                  have hMr := hI.m.at' (i := q) (by omega)
                  have hAr := hI.a.at' (i := q) (by omega)
                  have hJr := hI.j.at' (i := q) (by omega)
                  obtain ⟨v1, v2, v3⟩ := hI.at' q y hq (by omega)
                  rw [matI_get (List.getElem?_eq_getElem (show q < M.length by omega)) (show y < M[q].length by omega)] at v1
                  rw [mat_get (List.getElem?_eq_getElem (show q < A.length by omega)) (show y < A[q].length by omega)] at v2
                  rw [mat_get (List.getElem?_eq_getElem (show q < J.length by omega)) (show y < J[q].length by omega)] at v3
                  obtain ⟨k1, o1, p1, Q1, r1, w1, z1⟩ := hM.list (i := q) (by omega)
                  obtain ⟨k2, o2, p2, Q2, r2, w2, z2⟩ := hA.list (i := q) (by omega)
                  obtain ⟨k3, o3, p3, Q3, r3, w3, z3⟩ := hJ.list (i := q) (by omega)
                  obtain ⟨k4, o4, p4, z4⟩ := w1.int (i := y) (by omega)
                  obtain ⟨k5, o5, p5, z5⟩ := w2.bool (i := y) (by omega)
                  obtain ⟨k6, o6, p6, z6⟩ := w3.bool (i := y) (by omega)
                  simp -implicitDefEqProofs only [S190_1, go_sem, Nat.reduceBEq, Nat.reduceAdd, Nat.reduceSub, Nat.reduceMul, Nat.reduceLeDiff, reduceCtorEq, ↓reduceIte, Int.reduceLT, Int.reduceLE, Int.reduceEq, Int.reduceNe]
                  refine s_ld (j := 5) (cells_lk (lk_r [g4, g5, g6, g1, g2, g3] _ _ _ hb)) (by simp [htC]) (by simp) ?_
                  simp -implicitDefEqProofs only [htC, go_sem, Nat.reduceBEq, Nat.reduceAdd, Nat.reduceSub, Nat.reduceMul, Nat.reduceLeDiff, reduceCtorEq, ↓reduceIte, Int.reduceLT, Int.reduceLE, Int.reduceEq, Int.reduceNe]
                  refine s_idx p1 (by omega) (by omega) ?_
                  simp -implicitDefEqProofs only [go_sem, Nat.reduceBEq, Nat.reduceAdd, Nat.reduceSub, Nat.reduceMul, Nat.reduceLeDiff, reduceCtorEq, ↓reduceIte, Int.reduceLT, Int.reduceLE, Int.reduceEq, Int.reduceNe]
                  refine s_ld0 (z1 _ (lk_r [g4, g5, g6, g1, g2, g3] _)) (by simp) (by simp) ?_
                  simp -implicitDefEqProofs only [go_sem, Nat.reduceBEq, Nat.reduceAdd, Nat.reduceSub, Nat.reduceMul, Nat.reduceLeDiff, reduceCtorEq, ↓reduceIte, Int.reduceLT, Int.reduceLE, Int.reduceEq, Int.reduceNe]
                  refine s_idx p4 (by omega) (by omega) ?_
                  simp -implicitDefEqProofs only [go_sem, Nat.reduceBEq, Nat.reduceAdd, Nat.reduceSub, Nat.reduceMul, Nat.reduceLeDiff, reduceCtorEq, ↓reduceIte, Int.reduceLT, Int.reduceLE, Int.reduceEq, Int.reduceNe]
                  refine s_ld0 (z4 _ (lk_r [g4, g5, g6, g1, g2, g3] _)) (by simp) (by simp) ?_
                  simp -implicitDefEqProofs only [go_sem, Nat.reduceBEq, Nat.reduceAdd, Nat.reduceSub, Nat.reduceMul, Nat.reduceLeDiff, reduceCtorEq, ↓reduceIte, Int.reduceLT, Int.reduceLE, Int.reduceEq, Int.reduceNe]
                  refine s_ld (j := 6) (cells_lk (lk_r [g4, g5, g6, g1, g2, g3] _ _ _ hb)) (by simp [htC]) (by simp) ?_
                  simp -implicitDefEqProofs only [htC, go_sem, Nat.reduceBEq, Nat.reduceAdd, Nat.reduceSub, Nat.reduceMul, Nat.reduceLeDiff, reduceCtorEq, ↓reduceIte, Int.reduceLT, Int.reduceLE, Int.reduceEq, Int.reduceNe]
                  refine s_idx p2 (by omega) (by omega) ?_
                  simp -implicitDefEqProofs only [go_sem, Nat.reduceBEq, Nat.reduceAdd, Nat.reduceSub, Nat.reduceMul, Nat.reduceLeDiff, reduceCtorEq, ↓reduceIte, Int.reduceLT, Int.reduceLE, Int.reduceEq, Int.reduceNe]
                  refine s_ld0 (z2 _ (lk_r [g4, g5, g6, g1, g2, g3] _)) (by simp) (by simp) ?_
                  simp -implicitDefEqProofs only [go_sem, Nat.reduceBEq, Nat.reduceAdd, Nat.reduceSub, Nat.reduceMul, Nat.reduceLeDiff, reduceCtorEq, ↓reduceIte, Int.reduceLT, Int.reduceLE, Int.reduceEq, Int.reduceNe]
                  refine s_idx p5 (by omega) (by omega) ?_
                  simp -implicitDefEqProofs only [go_sem, Nat.reduceBEq, Nat.reduceAdd, Nat.reduceSub, Nat.reduceMul, Nat.reduceLeDiff, reduceCtorEq, ↓reduceIte, Int.reduceLT, Int.reduceLE, Int.reduceEq, Int.reduceNe]
                  refine s_ld0 (z5 _ (lk_r [g4, g5, g6, g1, g2, g3] _)) (by simp) (by simp) ?_
                  simp -implicitDefEqProofs only [go_sem, Nat.reduceBEq, Nat.reduceAdd, Nat.reduceSub, Nat.reduceMul, Nat.reduceLeDiff, reduceCtorEq, ↓reduceIte, Int.reduceLT, Int.reduceLE, Int.reduceEq, Int.reduceNe]
                  refine s_ld (j := 7) (cells_lk (lk_r [g4, g5, g6, g1, g2, g3] _ _ _ hb)) (by simp [htC]) (by simp) ?_
                  simp -implicitDefEqProofs only [htC, go_sem, Nat.reduceBEq, Nat.reduceAdd, Nat.reduceSub, Nat.reduceMul, Nat.reduceLeDiff, reduceCtorEq, ↓reduceIte, Int.reduceLT, Int.reduceLE, Int.reduceEq, Int.reduceNe]
                  refine s_idx p3 (by omega) (by omega) ?_
                  simp -implicitDefEqProofs only [go_sem, Nat.reduceBEq, Nat.reduceAdd, Nat.reduceSub, Nat.reduceMul, Nat.reduceLeDiff, reduceCtorEq, ↓reduceIte, Int.reduceLT, Int.reduceLE, Int.reduceEq, Int.reduceNe]
                  refine s_ld0 (z3 _ (lk_r [g4, g5, g6, g1, g2, g3] _)) (by simp) (by simp) ?_
                  simp -implicitDefEqProofs only [go_sem, Nat.reduceBEq, Nat.reduceAdd, Nat.reduceSub, Nat.reduceMul, Nat.reduceLeDiff, reduceCtorEq, ↓reduceIte, Int.reduceLT, Int.reduceLE, Int.reduceEq, Int.reduceNe]
                  refine s_idx p6 (by omega) (by omega) ?_
                  simp -implicitDefEqProofs only [go_sem, Nat.reduceBEq, Nat.reduceAdd, Nat.reduceSub, Nat.reduceMul, Nat.reduceLeDiff, reduceCtorEq, ↓reduceIte, Int.reduceLT, Int.reduceLE, Int.reduceEq, Int.reduceNe]
                  refine s_ld0 (z6 _ (lk_r [g4, g5, g6, g1, g2, g3] _)) (by simp) (by simp) ?_
                  simp -implicitDefEqProofs only [go_sem, Nat.reduceBEq, Nat.reduceAdd, Nat.reduceSub, Nat.reduceMul, Nat.reduceLeDiff, reduceCtorEq, ↓reduceIte, Int.reduceLT, Int.reduceLE, Int.reduceEq, Int.reduceNe]
                  exact Up.here ⟨rfl, _, _, _, rfl, v1, v2, v3⟩
              · rintro vs Γ' ⟨rfl, c, hv, tp, rfl, hsy⟩
                obtain ⟨e1, e2, e3⟩ := hRow.get hx (by rw [hRow.ml]; omega) (by rw [hRow.al]; omega) (by rw [hRow.jl]; omega)
                obtain ⟨e4, e5, e6⟩ := hAcc.get hxy (by rw [hAcc.ml]; omega) (by rw [hAcc.al]; omega) (by rw [hAcc.jl]; omega)
                have hml := hRow.ml
                have hal := hRow.al
                have hjl := hRow.jl
                have hml2 := hAcc.ml
                have hal2 := hAcc.al
                have hjl2 := hAcc.jl
                obtain rfl := hsy.c
                have hq1 := capN_mul_le (P x) (symT T s y)
                have hq2 := capN_le (accX P T s x y (x + y))
                have hq3 := capN_le (P x * symT T s y)
                have hw3 : IntKind.i64.wrap (((capN (P x) : Nat) : Int) * ((capN (symT T s y) : Nat) : Int)) = ((capN (P x) * capN (symT T s y) : Nat) : Int) := by rw [← Int.natCast_mul, wrap_id (by omega) (by omega)]
                have hw4 : IntKind.i64.wrap (((capN (accX P T s x y (x + y)) : Nat) : Int) + ((capN (P x * symT T s y) : Nat) : Int)) = ((capN (accX P T s x y (x + y)) + capN (P x * symT T s y) : Nat) : Int) := by rw [← Int.natCast_add, wrap_id (by omega) (by omega)]
                have hcm : ∀ Γ : Ctx, g1 ∈ Γ → Cells Γ b1 x [.int .i64 ((capN (P x) : Nat) : Int)] := fun Γ hg => by
                  have := h1.num (i := x) (by omega) hg
                  rwa [e1] at this
                have hcm2 : ∀ Γ : Ctx, g4 ∈ Γ → Cells Γ b4 (x + y) [.int .i64 ((capN (accX P T s x y (x + y)) : Nat) : Int)] := fun Γ hg => by
                  have := h4'.num (i := x + y) (by omega) hg
                  rwa [e4] at this
                simp -implicitDefEqProofs only [S190_2, hw2, go_sem, Nat.reduceBEq, Nat.reduceAdd, Nat.reduceSub, Nat.reduceMul, Nat.reduceLeDiff, reduceCtorEq, ↓reduceIte, Int.reduceLT, Int.reduceLE, Int.reduceEq, Int.reduceNe]
                refine ⟨[g4, g5, g6, g1, g2, g3], [], fun ψ Γ' => ∃ (g4' : PH), ψ = [(0, .v true (.pointer (some ⟨b, 0, none⟩))), (7, .v true (.slice (some ⟨b1, 0, none⟩) (n + 1) (n + 1))), (8, .v true (.slice (some ⟨b2, 0, none⟩) (n + 1) (n + 1))), (9, .v true (.slice (some ⟨b3, 0, none⟩) (n + 1) (n + 1))), (11, .box bs 39 [.bool s.t, .int .i64 s.n]),
                    (12, .v true (.slice (some ⟨b4, 0, none⟩) (n + 1) (n + 1))), (13, .v true (.slice (some ⟨b5, 0, none⟩) (n + 1) (n + 1))), (14, .v true (.slice (some ⟨b6, 0, none⟩) (n + 1) (n + 1))), (15, .v true (.int .i64 (x : Int))), (16, .v true (.int .i64 (y : Int))), (18, .v true (.bool hv)), (19, .v true (.bool tp)), (42, .v true (.slice Al l.length cl)), (43, .v true (.int .i64 (l.length : Int))), (44, .v true (.int .i64 (i : Int))),
                    (70, .v true (.int .i64 ((n + 1 : Nat) : Int))), (71, .v true (.int .i64 (x : Int)))] ∧ Γ' = [g4', g5, g6, g1, g2, g3] ∧ Arr g4' b4 3 (m2.set (x + y) ((capN (accX P T s x y (x + y) + P x * symT T s y) : Nat) : Int)), Ent.refl _, ?_, ?_⟩
                · simp -implicitDefEqProofs only [hw2, go_sem, Nat.reduceBEq, Nat.reduceAdd, Nat.reduceSub, Nat.reduceMul, Nat.reduceLeDiff, reduceCtorEq, ↓reduceIte, Int.reduceLT, Int.reduceLE, Int.reduceEq, Int.reduceNe]
                  refine s_idx rfl (by omega) (by omega) ?_
                  simp -implicitDefEqProofs only [go_sem, Nat.reduceBEq, Nat.reduceAdd, Nat.reduceSub, Nat.reduceMul, Nat.reduceLeDiff, reduceCtorEq, ↓reduceIte, Int.reduceLT, Int.reduceLE, Int.reduceEq, Int.reduceNe]
                  refine s_idx rfl (by omega) (by omega) ?_
                  simp -implicitDefEqProofs only [go_sem, Nat.reduceBEq, Nat.reduceAdd, Nat.reduceSub, Nat.reduceMul, Nat.reduceLeDiff, reduceCtorEq, ↓reduceIte, Int.reduceLT, Int.reduceLE, Int.reduceEq, Int.reduceNe]
                  refine s_ld0 (by simpa using hcm _ (by simp)) (by simp) (by simp) ?_
                  simp -implicitDefEqProofs only [hw3, go_sem, Nat.reduceBEq, Nat.reduceAdd, Nat.reduceSub, Nat.reduceMul, Nat.reduceLeDiff, reduceCtorEq, ↓reduceIte, Int.reduceLT, Int.reduceLE, Int.reduceEq, Int.reduceNe]
                  repeat' first
                    | with_reducible exact True.intro
                    | with_reducible refine And.intro ?_ ?_
                    | with_reducible intro bk
                    | (refine s_ld0 (by simpa using hcm2 _ (by simp)) (by simp) (by simp) ?_)
                    | (refine CallVC.read (ref_capped (capN (P x) * capN (symT T s y)) (by omega)) ?_; rintro v Γ' ⟨rfl, rfl⟩; rw [capN_mul])
                    | (refine CallVC.read (ref_capped (capN (accX P T s x y (x + y)) + capN (P x * symT T s y)) (by omega)) ?_; rintro v Γ' ⟨rfl, rfl⟩; rw [capN_add])
                    | (refine s_idx rfl (by omega) (by omega) ?_)
                    | (refine s_storeA (ix := 0) (α := Int) ((capN (accX P T s x y (x + y) + P x * symT T s y) : Nat) : Int) rfl h4' (i := x + y) (by omega) ?_; intro g4' h4n _)
                    | simp -implicitDefEqProofs only [hw4, go_sem, Nat.reduceBEq, Nat.reduceAdd, Nat.reduceSub, Nat.reduceMul, Nat.reduceLeDiff, reduceCtorEq, ↓reduceIte, Int.reduceLT, Int.reduceLE, Int.reduceEq, Int.reduceNe]
                  all_goals exact Up.here ⟨g4', rfl, h4n⟩
                · rintro ψ Γ' ⟨g4', rfl, rfl, h4n⟩
                  clear hcm hcm2 hw3 hw4 h4'
                  have hc5 : ∀ Γ : Ctx, g5 ∈ Γ → Cells Γ b5 (x + y) [.bool a2[x + y]] := fun Γ hg => h5.bool (by omega) hg
                  have hc6 : ∀ Γ : Ctx, g6 ∈ Γ → Cells Γ b6 (x + y) [.bool j2[x + y]] := fun Γ hg => h6.bool (by omega) hg
                  have hc2 : ∀ Γ : Ctx, g2 ∈ Γ → Cells Γ b2 x [.bool a[x]] := fun Γ hg => h2.bool (by omega) hg
                  have hc3 : ∀ Γ : Ctx, g3 ∈ Γ → Cells Γ b3 x [.bool j[x]] := fun Γ hg => h3.bool (by omega) hg
                  generalize a2[x + y] = a0 at *
                  generalize j2[x + y] = j0 at *
                  generalize a[x] = ax at *
                  generalize j[x] = jx at *
                  have hfin := fun (ab jb : Bool) => row_step (ab := ab) (jb := jb) hpre hle hxy hAcc hsy rfl e2 e3 e5 e6
                  clear e1 e2 e3 e4 e5 e6
                  simp -implicitDefEqProofs only [hw2, go_sem, Nat.reduceBEq, Nat.reduceAdd, Nat.reduceSub, Nat.reduceMul, Nat.reduceLeDiff, reduceCtorEq, ↓reduceIte, Int.reduceLT, Int.reduceLE, Int.reduceEq, Int.reduceNe]
                  refine s_idx rfl (by omega) (by omega) ?_
                  simp -implicitDefEqProofs only [go_sem, Nat.reduceBEq, Nat.reduceAdd, Nat.reduceSub, Nat.reduceMul, Nat.reduceLeDiff, reduceCtorEq, ↓reduceIte, Int.reduceLT, Int.reduceLE, Int.reduceEq, Int.reduceNe]
                  refine s_ld0 (by simpa using hc5 _ (by simp)) (by simp) (by simp) ?_
                  cases a0 with
                  | true =>
                    simp -implicitDefEqProofs only [go_sem, Nat.reduceBEq, Nat.reduceAdd, Nat.reduceSub, Nat.reduceMul, Nat.reduceLeDiff, reduceCtorEq, ↓reduceIte, Int.reduceLT, Int.reduceLE, Int.reduceEq, Int.reduceNe]
                    refine s_idxg (b := 0) (o := 0) (by simp) ?_
                    simp -implicitDefEqProofs only [go_sem, Nat.reduceBEq, Nat.reduceAdd, Nat.reduceSub, Nat.reduceMul, Nat.reduceLeDiff, reduceCtorEq, ↓reduceIte, Int.reduceLT, Int.reduceLE, Int.reduceEq, Int.reduceNe]
                    refine s_ldg0 (cs := [.bool false]) (by simp) (by simp) (by simp) (by simp) ?_
                    simp -implicitDefEqProofs only [go_sem, Nat.reduceBEq, Nat.reduceAdd, Nat.reduceSub, Nat.reduceMul, Nat.reduceLeDiff, reduceCtorEq, ↓reduceIte, Int.reduceLT, Int.reduceLE, Int.reduceEq, Int.reduceNe]
                    refine s_idx rfl (by omega) (by omega) ?_
                    simp -implicitDefEqProofs only [go_sem, Nat.reduceBEq, Nat.reduceAdd, Nat.reduceSub, Nat.reduceMul, Nat.reduceLeDiff, reduceCtorEq, ↓reduceIte, Int.reduceLT, Int.reduceLE, Int.reduceEq, Int.reduceNe]
                    refine s_storeA (ix := 1) (α := Bool) true rfl h5 (i := x + y) (by omega) ?_
                    intro g5n h5n _
                    simp -implicitDefEqProofs only [hw2, go_sem, Nat.reduceBEq, Nat.reduceAdd, Nat.reduceSub, Nat.reduceMul, Nat.reduceLeDiff, reduceCtorEq, ↓reduceIte, Int.reduceLT, Int.reduceLE, Int.reduceEq, Int.reduceNe]
                    refine s_idx rfl (by omega) (by omega) ?_
                    simp -implicitDefEqProofs only [go_sem, Nat.reduceBEq, Nat.reduceAdd, Nat.reduceSub, Nat.reduceMul, Nat.reduceLeDiff, reduceCtorEq, ↓reduceIte, Int.reduceLT, Int.reduceLE, Int.reduceEq, Int.reduceNe]
                    refine s_ld0 (by simpa using hc6 _ (by simp)) (by simp) (by simp) ?_
                    cases j0 with
                    | true =>
                      simp -implicitDefEqProofs only [go_sem, Nat.reduceBEq, Nat.reduceAdd, Nat.reduceSub, Nat.reduceMul, Nat.reduceLeDiff, reduceCtorEq, ↓reduceIte, Int.reduceLT, Int.reduceLE, Int.reduceEq, Int.reduceNe]
                      refine s_idxg (b := 0) (o := 0) (by simp) ?_
                      simp -implicitDefEqProofs only [go_sem, Nat.reduceBEq, Nat.reduceAdd, Nat.reduceSub, Nat.reduceMul, Nat.reduceLeDiff, reduceCtorEq, ↓reduceIte, Int.reduceLT, Int.reduceLE, Int.reduceEq, Int.reduceNe]
                      refine s_ldg0 (cs := [.bool false]) (by simp) (by simp) (by simp) (by simp) ?_
                      simp -implicitDefEqProofs only [go_sem, Nat.reduceBEq, Nat.reduceAdd, Nat.reduceSub, Nat.reduceMul, Nat.reduceLeDiff, reduceCtorEq, ↓reduceIte, Int.reduceLT, Int.reduceLE, Int.reduceEq, Int.reduceNe]
                      refine s_idxg (b := 0) (o := 0) (by simp) ?_
                      simp -implicitDefEqProofs only [go_sem, Nat.reduceBEq, Nat.reduceAdd, Nat.reduceSub, Nat.reduceMul, Nat.reduceLeDiff, reduceCtorEq, ↓reduceIte, Int.reduceLT, Int.reduceLE, Int.reduceEq, Int.reduceNe]
                      refine s_ldg0 (cs := [.bool false]) (by simp) (by simp) (by simp) (by simp) ?_
                      simp -implicitDefEqProofs only [go_sem, Nat.reduceBEq, Nat.reduceAdd, Nat.reduceSub, Nat.reduceMul, Nat.reduceLeDiff, reduceCtorEq, ↓reduceIte, Int.reduceLT, Int.reduceLE, Int.reduceEq, Int.reduceNe]
                      refine s_idx rfl (by omega) (by omega) ?_
                      simp -implicitDefEqProofs only [go_sem, Nat.reduceBEq, Nat.reduceAdd, Nat.reduceSub, Nat.reduceMul, Nat.reduceLeDiff, reduceCtorEq, ↓reduceIte, Int.reduceLT, Int.reduceLE, Int.reduceEq, Int.reduceNe]
                      refine s_storeA (ix := 2) (α := Bool) true rfl h6 (i := x + y) (by omega) ?_
                      intro g6n h6n _
                      simp -implicitDefEqProofs only [go_sem, Nat.reduceBEq, Nat.reduceAdd, Nat.reduceSub, Nat.reduceMul, Nat.reduceLeDiff, reduceCtorEq, ↓reduceIte, Int.reduceLT, Int.reduceLE, Int.reduceEq, Int.reduceNe]
                      exact Up.here ⟨g4', g5n, g6n, _, _, _, rfl, h4n, h5n, h6n, hfin true true (by simp) (by simp_all)⟩
                    | false =>
                      simp -implicitDefEqProofs only [go_sem, Nat.reduceBEq, Nat.reduceAdd, Nat.reduceSub, Nat.reduceMul, Nat.reduceLeDiff, reduceCtorEq, ↓reduceIte, Int.reduceLT, Int.reduceLE, Int.reduceEq, Int.reduceNe]
                      refine s_idx rfl (by omega) (by omega) ?_
                      simp -implicitDefEqProofs only [go_sem, Nat.reduceBEq, Nat.reduceAdd, Nat.reduceSub, Nat.reduceMul, Nat.reduceLeDiff, reduceCtorEq, ↓reduceIte, Int.reduceLT, Int.reduceLE, Int.reduceEq, Int.reduceNe]
                      refine s_ld0 (by simpa using hc3 _ (by simp)) (by simp) (by simp) ?_
                      simp -implicitDefEqProofs only [go_sem, Nat.reduceBEq, Nat.reduceAdd, Nat.reduceSub, Nat.reduceMul, Nat.reduceLeDiff, reduceCtorEq, ↓reduceIte, Int.reduceLT, Int.reduceLE, Int.reduceEq, Int.reduceNe]
                      have hbb : ∀ bb, (jx && hv) = bb → (bb = true ↔ jx = true ∧ hv = true) := fun bb e => by rw [← e]; simp
                      generalize (jx && hv) = bb at *
                      have hbb := hbb bb rfl
                      cases bb with
                      | true =>
                        simp -implicitDefEqProofs only [go_sem, Nat.reduceBEq, Nat.reduceAdd, Nat.reduceSub, Nat.reduceMul, Nat.reduceLeDiff, reduceCtorEq, ↓reduceIte, Int.reduceLT, Int.reduceLE, Int.reduceEq, Int.reduceNe]
                        refine s_idxg (b := 0) (o := 0) (by simp) ?_
                        simp -implicitDefEqProofs only [go_sem, Nat.reduceBEq, Nat.reduceAdd, Nat.reduceSub, Nat.reduceMul, Nat.reduceLeDiff, reduceCtorEq, ↓reduceIte, Int.reduceLT, Int.reduceLE, Int.reduceEq, Int.reduceNe]
                        refine s_ldg0 (cs := [.bool false]) (by simp) (by simp) (by simp) (by simp) ?_
                        simp -implicitDefEqProofs only [go_sem, Nat.reduceBEq, Nat.reduceAdd, Nat.reduceSub, Nat.reduceMul, Nat.reduceLeDiff, reduceCtorEq, ↓reduceIte, Int.reduceLT, Int.reduceLE, Int.reduceEq, Int.reduceNe]
                        refine s_idx rfl (by omega) (by omega) ?_
                        simp -implicitDefEqProofs only [go_sem, Nat.reduceBEq, Nat.reduceAdd, Nat.reduceSub, Nat.reduceMul, Nat.reduceLeDiff, reduceCtorEq, ↓reduceIte, Int.reduceLT, Int.reduceLE, Int.reduceEq, Int.reduceNe]
                        refine s_storeA (ix := 2) (α := Bool) true rfl h6 (i := x + y) (by omega) ?_
                        intro g6n h6n _
                        simp -implicitDefEqProofs only [go_sem, Nat.reduceBEq, Nat.reduceAdd, Nat.reduceSub, Nat.reduceMul, Nat.reduceLeDiff, reduceCtorEq, ↓reduceIte, Int.reduceLT, Int.reduceLE, Int.reduceEq, Int.reduceNe]
                        exact Up.here ⟨g4', g5n, g6n, _, _, _, rfl, h4n, h5n, h6n, hfin true true (by simp) (by simp_all)⟩
                      | false =>
                        simp -implicitDefEqProofs only [go_sem, Nat.reduceBEq, Nat.reduceAdd, Nat.reduceSub, Nat.reduceMul, Nat.reduceLeDiff, reduceCtorEq, ↓reduceIte, Int.reduceLT, Int.reduceLE, Int.reduceEq, Int.reduceNe]
                        refine s_idx rfl (by omega) (by omega) ?_
                        simp -implicitDefEqProofs only [go_sem, Nat.reduceBEq, Nat.reduceAdd, Nat.reduceSub, Nat.reduceMul, Nat.reduceLeDiff, reduceCtorEq, ↓reduceIte, Int.reduceLT, Int.reduceLE, Int.reduceEq, Int.reduceNe]
                        refine s_ld0 (by simpa using hc2 _ (by simp)) (by simp) (by simp) ?_
                        simp -implicitDefEqProofs only [go_sem, Nat.reduceBEq, Nat.reduceAdd, Nat.reduceSub, Nat.reduceMul, Nat.reduceLeDiff, reduceCtorEq, ↓reduceIte, Int.reduceLT, Int.reduceLE, Int.reduceEq, Int.reduceNe]
                        refine s_idx rfl (by omega) (by omega) ?_
                        simp -implicitDefEqProofs only [go_sem, Nat.reduceBEq, Nat.reduceAdd, Nat.reduceSub, Nat.reduceMul, Nat.reduceLeDiff, reduceCtorEq, ↓reduceIte, Int.reduceLT, Int.reduceLE, Int.reduceEq, Int.reduceNe]
                        refine s_storeA (ix := 2) (α := Bool) (ax && tp) rfl h6 (i := x + y) (by omega) ?_
                        intro g6n h6n _
                        simp -implicitDefEqProofs only [go_sem, Nat.reduceBEq, Nat.reduceAdd, Nat.reduceSub, Nat.reduceMul, Nat.reduceLeDiff, reduceCtorEq, ↓reduceIte, Int.reduceLT, Int.reduceLE, Int.reduceEq, Int.reduceNe]
                        exact Up.here ⟨g4', g5n, g6n, _, _, _, rfl, h4n, h5n, h6n, hfin true (ax && tp) (by simp) (by simp_all)⟩
                  | false =>
                    simp -implicitDefEqProofs only [go_sem, Nat.reduceBEq, Nat.reduceAdd, Nat.reduceSub, Nat.reduceMul, Nat.reduceLeDiff, reduceCtorEq, ↓reduceIte, Int.reduceLT, Int.reduceLE, Int.reduceEq, Int.reduceNe]
                    refine s_idx rfl (by omega) (by omega) ?_
                    simp -implicitDefEqProofs only [go_sem, Nat.reduceBEq, Nat.reduceAdd, Nat.reduceSub, Nat.reduceMul, Nat.reduceLeDiff, reduceCtorEq, ↓reduceIte, Int.reduceLT, Int.reduceLE, Int.reduceEq, Int.reduceNe]
                    refine s_ld0 (by simpa using hc2 _ (by simp)) (by simp) (by simp) ?_
                    simp -implicitDefEqProofs only [go_sem, Nat.reduceBEq, Nat.reduceAdd, Nat.reduceSub, Nat.reduceMul, Nat.reduceLeDiff, reduceCtorEq, ↓reduceIte, Int.reduceLT, Int.reduceLE, Int.reduceEq, Int.reduceNe]
                    refine s_idx rfl (by omega) (by omega) ?_
                    simp -implicitDefEqProofs only [go_sem, Nat.reduceBEq, Nat.reduceAdd, Nat.reduceSub, Nat.reduceMul, Nat.reduceLeDiff, reduceCtorEq, ↓reduceIte, Int.reduceLT, Int.reduceLE, Int.reduceEq, Int.reduceNe]
                    refine s_storeA (ix := 1) (α := Bool) (ax && hv) rfl h5 (i := x + y) (by omega) ?_
                    intro g5n h5n _
                    simp -implicitDefEqProofs only [hw2, go_sem, Nat.reduceBEq, Nat.reduceAdd, Nat.reduceSub, Nat.reduceMul, Nat.reduceLeDiff, reduceCtorEq, ↓reduceIte, Int.reduceLT, Int.reduceLE, Int.reduceEq, Int.reduceNe]
                    refine s_idx rfl (by omega) (by omega) ?_
                    simp -implicitDefEqProofs only [go_sem, Nat.reduceBEq, Nat.reduceAdd, Nat.reduceSub, Nat.reduceMul, Nat.reduceLeDiff, reduceCtorEq, ↓reduceIte, Int.reduceLT, Int.reduceLE, Int.reduceEq, Int.reduceNe]
                    refine s_ld0 (by simpa using hc6 _ (by simp)) (by simp) (by simp) ?_
                    cases j0 with
                    | true =>
                      simp -implicitDefEqProofs only [go_sem, Nat.reduceBEq, Nat.reduceAdd, Nat.reduceSub, Nat.reduceMul, Nat.reduceLeDiff, reduceCtorEq, ↓reduceIte, Int.reduceLT, Int.reduceLE, Int.reduceEq, Int.reduceNe]
                      refine s_idxg (b := 0) (o := 0) (by simp) ?_
                      simp -implicitDefEqProofs only [go_sem, Nat.reduceBEq, Nat.reduceAdd, Nat.reduceSub, Nat.reduceMul, Nat.reduceLeDiff, reduceCtorEq, ↓reduceIte, Int.reduceLT, Int.reduceLE, Int.reduceEq, Int.reduceNe]
                      refine s_ldg0 (cs := [.bool false]) (by simp) (by simp) (by simp) (by simp) ?_
                      simp -implicitDefEqProofs only [go_sem, Nat.reduceBEq, Nat.reduceAdd, Nat.reduceSub, Nat.reduceMul, Nat.reduceLeDiff, reduceCtorEq, ↓reduceIte, Int.reduceLT, Int.reduceLE, Int.reduceEq, Int.reduceNe]
                      refine s_idxg (b := 0) (o := 0) (by simp) ?_
                      simp -implicitDefEqProofs only [go_sem, Nat.reduceBEq, Nat.reduceAdd, Nat.reduceSub, Nat.reduceMul, Nat.reduceLeDiff, reduceCtorEq, ↓reduceIte, Int.reduceLT, Int.reduceLE, Int.reduceEq, Int.reduceNe]
                      refine s_ldg0 (cs := [.bool false]) (by simp) (by simp) (by simp) (by simp) ?_
                      simp -implicitDefEqProofs only [go_sem, Nat.reduceBEq, Nat.reduceAdd, Nat.reduceSub, Nat.reduceMul, Nat.reduceLeDiff, reduceCtorEq, ↓reduceIte, Int.reduceLT, Int.reduceLE, Int.reduceEq, Int.reduceNe]
                      refine s_idx rfl (by omega) (by omega) ?_
                      simp -implicitDefEqProofs only [go_sem, Nat.reduceBEq, Nat.reduceAdd, Nat.reduceSub, Nat.reduceMul, Nat.reduceLeDiff, reduceCtorEq, ↓reduceIte, Int.reduceLT, Int.reduceLE, Int.reduceEq, Int.reduceNe]
                      refine s_storeA (ix := 2) (α := Bool) true rfl h6 (i := x + y) (by omega) ?_
                      intro g6n h6n _
                      simp -implicitDefEqProofs only [go_sem, Nat.reduceBEq, Nat.reduceAdd, Nat.reduceSub, Nat.reduceMul, Nat.reduceLeDiff, reduceCtorEq, ↓reduceIte, Int.reduceLT, Int.reduceLE, Int.reduceEq, Int.reduceNe]
                      exact Up.here ⟨g4', g5n, g6n, _, _, _, rfl, h4n, h5n, h6n, hfin (ax && hv) true (by simp) (by simp_all)⟩
                    | false =>
                      simp -implicitDefEqProofs only [go_sem, Nat.reduceBEq, Nat.reduceAdd, Nat.reduceSub, Nat.reduceMul, Nat.reduceLeDiff, reduceCtorEq, ↓reduceIte, Int.reduceLT, Int.reduceLE, Int.reduceEq, Int.reduceNe]
                      refine s_idx rfl (by omega) (by omega) ?_
                      simp -implicitDefEqProofs only [go_sem, Nat.reduceBEq, Nat.reduceAdd, Nat.reduceSub, Nat.reduceMul, Nat.reduceLeDiff, reduceCtorEq, ↓reduceIte, Int.reduceLT, Int.reduceLE, Int.reduceEq, Int.reduceNe]
                      refine s_ld0 (by simpa using hc3 _ (by simp)) (by simp) (by simp) ?_
                      simp -implicitDefEqProofs only [go_sem, Nat.reduceBEq, Nat.reduceAdd, Nat.reduceSub, Nat.reduceMul, Nat.reduceLeDiff, reduceCtorEq, ↓reduceIte, Int.reduceLT, Int.reduceLE, Int.reduceEq, Int.reduceNe]
                      have hbb : ∀ bb, (jx && hv) = bb → (bb = true ↔ jx = true ∧ hv = true) := fun bb e => by rw [← e]; simp
                      generalize (jx && hv) = bb at *
                      have hbb := hbb bb rfl
                      cases bb with
                      | true =>
                        simp -implicitDefEqProofs only [go_sem, Nat.reduceBEq, Nat.reduceAdd, Nat.reduceSub, Nat.reduceMul, Nat.reduceLeDiff, reduceCtorEq, ↓reduceIte, Int.reduceLT, Int.reduceLE, Int.reduceEq, Int.reduceNe]
                        refine s_idxg (b := 0) (o := 0) (by simp) ?_
                        simp -implicitDefEqProofs only [go_sem, Nat.reduceBEq, Nat.reduceAdd, Nat.reduceSub, Nat.reduceMul, Nat.reduceLeDiff, reduceCtorEq, ↓reduceIte, Int.reduceLT, Int.reduceLE, Int.reduceEq, Int.reduceNe]
                        refine s_ldg0 (cs := [.bool false]) (by simp) (by simp) (by simp) (by simp) ?_
                        simp -implicitDefEqProofs only [go_sem, Nat.reduceBEq, Nat.reduceAdd, Nat.reduceSub, Nat.reduceMul, Nat.reduceLeDiff, reduceCtorEq, ↓reduceIte, Int.reduceLT, Int.reduceLE, Int.reduceEq, Int.reduceNe]
                        refine s_idx rfl (by omega) (by omega) ?_
                        simp -implicitDefEqProofs only [go_sem, Nat.reduceBEq, Nat.reduceAdd, Nat.reduceSub, Nat.reduceMul, Nat.reduceLeDiff, reduceCtorEq, ↓reduceIte, Int.reduceLT, Int.reduceLE, Int.reduceEq, Int.reduceNe]
                        refine s_storeA (ix := 2) (α := Bool) true rfl h6 (i := x + y) (by omega) ?_
                        intro g6n h6n _
                        simp -implicitDefEqProofs only [go_sem, Nat.reduceBEq, Nat.reduceAdd, Nat.reduceSub, Nat.reduceMul, Nat.reduceLeDiff, reduceCtorEq, ↓reduceIte, Int.reduceLT, Int.reduceLE, Int.reduceEq, Int.reduceNe]
                        exact Up.here ⟨g4', g5n, g6n, _, _, _, rfl, h4n, h5n, h6n, hfin (ax && hv) true (by simp) (by simp_all)⟩
                      | false =>
                        simp -implicitDefEqProofs only [go_sem, Nat.reduceBEq, Nat.reduceAdd, Nat.reduceSub, Nat.reduceMul, Nat.reduceLeDiff, reduceCtorEq, ↓reduceIte, Int.reduceLT, Int.reduceLE, Int.reduceEq, Int.reduceNe]
                        refine s_idx rfl (by omega) (by omega) ?_
                        simp -implicitDefEqProofs only [go_sem, Nat.reduceBEq, Nat.reduceAdd, Nat.reduceSub, Nat.reduceMul, Nat.reduceLeDiff, reduceCtorEq, ↓reduceIte, Int.reduceLT, Int.reduceLE, Int.reduceEq, Int.reduceNe]
                        refine s_ld0 (by simpa using hc2 _ (by simp)) (by simp) (by simp) ?_
                        simp -implicitDefEqProofs only [go_sem, Nat.reduceBEq, Nat.reduceAdd, Nat.reduceSub, Nat.reduceMul, Nat.reduceLeDiff, reduceCtorEq, ↓reduceIte, Int.reduceLT, Int.reduceLE, Int.reduceEq, Int.reduceNe]
                        refine s_idx rfl (by omega) (by omega) ?_
                        simp -implicitDefEqProofs only [go_sem, Nat.reduceBEq, Nat.reduceAdd, Nat.reduceSub, Nat.reduceMul, Nat.reduceLeDiff, reduceCtorEq, ↓reduceIte, Int.reduceLT, Int.reduceLE, Int.reduceEq, Int.reduceNe]
                        refine s_storeA (ix := 2) (α := Bool) (ax && tp) rfl h6 (i := x + y) (by omega) ?_
                        intro g6n h6n _
                        simp -implicitDefEqProofs only [go_sem, Nat.reduceBEq, Nat.reduceAdd, Nat.reduceSub, Nat.reduceMul, Nat.reduceLeDiff, reduceCtorEq, ↓reduceIte, Int.reduceLT, Int.reduceLE, Int.reduceEq, Int.reduceNe]
                        exact Up.here ⟨g4', g5n, g6n, _, _, _, rfl, h4n, h5n, h6n, hfin (ax && hv) (ax && tp) (by simp) (by simp_all)⟩
            · rintro vs Γ' ⟨rfl, g4, g5, g6, m2, a2, j2, rfl, h4', h5, h6, hAcc⟩
              simp -implicitDefEqProofs only [S190_4, go_sem, Nat.reduceBEq, Nat.reduceAdd, Nat.reduceSub, Nat.reduceMul, Nat.reduceLeDiff, reduceCtorEq, ↓reduceIte, Int.reduceLT, Int.reduceLE, Int.reduceEq, Int.reduceNe]
              simp (disch := omega) only [wrap_id]
              exact ⟨f3 - 1, by omega, Up.here ⟨g4, g5, g6, m2, a2, j2, y + 1, rfl, rfl, by omega, h4', h5, h6, hAcc⟩⟩
          · simp (disch := omega) only [wrap_id]
            have hye : y = n + 1 - x := by omega
            subst hye
            exact ⟨f2 - 1, by omega, Up.here ⟨g4, g5, g6, m2, a2, j2, x + 1, rfl, rfl, by omega, h4', h5, h6, hAcc.congr (fun k hk => accX_next P T s hk) (fun k hk => accX_next P' T' s hk)⟩⟩
        · have hxe : x = n + 1 := by omega
          subst hxe
          simp (disch := omega) only [wrap_id]
          refine ⟨f - 1, by omega, Up.sel [[0], [1], [2]] (by decide) fun _ _ => ⟨g4, g5, g6, b4, b5, b6, m2, a2, j2, i + 1, rfl, rfl, by omega, h4', h5, h6, ?_⟩⟩
          rw [hp1, hp2]
          exact hAcc.congr (fun k hk => accX_all P T s hk) (fun k hk => accX_all P' T' s hk)
    · have hie : i = l.length := by omega
      subst hie
      rw [List.take_length] at hRow
      refine Up.here ?_
      subst hR
      exact ⟨g1, g2, g3, b1, b2, b3, m, a, j, rfl, rfl, h1, h2, h3, hRow.congr (fun k _ => preT_one T l k) (fun k _ => preT_one T' l k)⟩
end Go.Proofs.Ytniobbepliknmaa.V
/- The text of (*parlance/parlref5.heights).up as a statement (slots: 0 t, 1 t, 2 many, 3 all, 4 just, 5 _, 6 r, 7 m, 8 a, 9 j, 10 k); no condition. -/
namespace Go.Proofs.Ytniobbepliknmaa.V
open Go
def S152_1 : Stmt :=
 .seq
 (.region [.mk (some 68) none (.ibin .lss (.tmp 67) (.tmp 66))]
 [0,2,3,4,6,7,8,9,48,49,50,66,67,68])
 (.seq (.cond (.tmp 68) .skip (.exit 2))
 (.seq
 (.block 3
 (.seq
 (.region
 [.mk (some 69) none (.mv (.tmp 67)),.mk (some 10) none (.mv (.tmp 69))]
 [0,2,3,4,6,7,8,9,10,48,49,50,66,67])
 (.seq
 (.drawn
 [(false,.mk (some 70) none (.mv (.tmp 2))),
 (false,.mk (some 71) none (.fld 0 (.tmp 6))),
 (true,.mk (some 72) none (.load false 1 (.tmp 71))),
 (false,.mk (some 73) none (.idx 1 (.tmp 70) (.tmp 72))),
 (true,.mk (some 74) none (.load false 1 (.tmp 73))),
 (false,.mk (some 75) none (.mv (.tmp 10))),
 (false,.mk (some 76) none (.mv (.tmp 2))),
 (false,.mk (some 77) none (.fld 0 (.tmp 6))),
 (false,.mk (some 78) none (.load false 1 (.tmp 77))),
 (false,.mk (some 79) none (.idx 1 (.tmp 76) (.tmp 78))),
 (false,.mk (some 80) none (.load false 1 (.tmp 79))),
 (false,.mk (some 81) none (.mv (.tmp 10))),
 (false,.mk (some 82) none (.idx 1 (.tmp 80) (.tmp 81))),
 (false,.mk (some 83) none (.load false 1 (.tmp 82))),
 (false,.mk (some 84) none (.mv (.tmp 7))),
 (false,.mk (some 85) none (.mv (.tmp 10))),
 (false,.mk (some 86) none (.idx 1 (.tmp 84) (.tmp 85))),
 (false,.mk (some 87) none (.load false 1 (.tmp 86))),
 (false,.mk (some 88) none (.ibin .add (.tmp 83) (.tmp 87))),
 (false,.mk (some 89) none (.call (.func 153) [.tmp 88])),
 (false,.mk (some 90) none (.idx 1 (.tmp 74) (.tmp 75))),
 (false,.mk none none (.store 1 (.tmp 90) (.tmp 89)))]
 [0,2,3,4,6,7,8,9,10,48,49,50,66,67])
 (.seq
 (.drawn
 [(false,.mk (some 91) none (.mv (.tmp 3))),
 (false,.mk (some 92) none (.fld 0 (.tmp 6))),
 (false,.mk (some 93) none (.load false 1 (.tmp 92))),
 (false,.mk (some 94) none (.idx 1 (.tmp 91) (.tmp 93))),
 (false,.mk (some 95) none (.load false 1 (.tmp 94))),
 (false,.mk (some 96) none (.mv (.tmp 10))),
 (false,.mk (some 97) none (.mv (.tmp 3))),
 (false,.mk (some 98) none (.fld 0 (.tmp 6))),
 (false,.mk (some 99) none (.load false 1 (.tmp 98))),
 (false,.mk (some 100) none (.idx 1 (.tmp 97) (.tmp 99))),
 (false,.mk (some 101) none (.load false 1 (.tmp 100))),
 (false,.mk (some 102) none (.mv (.tmp 10))),
 (false,.mk (some 103) none (.idx 1 (.tmp 101) (.tmp 102))),
 (false,.mk (some 104) none (.load false 1 (.tmp 103))),
 (false,.mk (some 105) none (.mv (.tmp 104))),
 (false,.mk (some 106) (some (105,false)) (.mv (.tmp 8))),
 (false,.mk (some 107) (some (105,false)) (.mv (.tmp 10))),
 (false,.mk (some 108) (some (105,false)) (.idx 1 (.tmp 106) (.tmp 107))),
 (false,.mk (some 109) (some (105,false)) (.load false 1 (.tmp 108))),
 (false,
 .mk (some 110) none
 (.pick (.tmp 105) (.const (.bool true)) (.tmp 109))),
 (false,.mk (some 111) none (.idx 1 (.tmp 95) (.tmp 96))),
 (false,.mk none none (.store 1 (.tmp 111) (.tmp 110)))]
 [0,2,3,4,6,7,8,9,10,48,49,50,66,67])
 (.drawn
 [(false,.mk (some 112) none (.mv (.tmp 4))),
 (false,.mk (some 113) none (.fld 0 (.tmp 6))),
 (false,.mk (some 114) none (.load false 1 (.tmp 113))),
 (false,.mk (some 115) none (.idx 1 (.tmp 112) (.tmp 114))),
 (false,.mk (some 116) none (.load false 1 (.tmp 115))),
 (false,.mk (some 117) none (.mv (.tmp 10))),
 (false,.mk (some 118) none (.mv (.tmp 4))),
 (false,.mk (some 119) none (.fld 0 (.tmp 6))),
 (false,.mk (some 120) none (.load false 1 (.tmp 119))),
 (false,.mk (some 121) none (.idx 1 (.tmp 118) (.tmp 120))),
 (false,.mk (some 122) none (.load false 1 (.tmp 121))),
 (false,.mk (some 123) none (.mv (.tmp 10))),
 (false,.mk (some 124) none (.idx 1 (.tmp 122) (.tmp 123))),
 (false,.mk (some 125) none (.load false 1 (.tmp 124))),
 (false,.mk (some 126) none (.mv (.tmp 125))),
 (false,.mk (some 127) (some (126,false)) (.mv (.tmp 9))),
 (false,.mk (some 128) (some (126,false)) (.mv (.tmp 10))),
 (false,.mk (some 129) (some (126,false)) (.idx 1 (.tmp 127) (.tmp 128))),
 (false,.mk (some 130) (some (126,false)) (.load false 1 (.tmp 129))),
 (false,
 .mk (some 131) none
 (.pick (.tmp 126) (.const (.bool true)) (.tmp 130))),
 (false,.mk (some 132) none (.idx 1 (.tmp 116) (.tmp 117))),
 (false,.mk none none (.store 1 (.tmp 132) (.tmp 131)))]
 [0,2,3,4,6,7,8,9,48,49,50,66,67])))))
 (.region
 [.mk (some 133) none (.ibin .add (.tmp 67) (.const (.int .i64 1))),
 .mk (some 67) none (.mv (.tmp 133))]
 [0,2,3,4,6,7,8,9,48,49,50,66,67])))
def S152_2 : Stmt :=
 .seq
 (.region [.mk (some 51) none (.ibin .lss (.tmp 50) (.tmp 49))]
 [0,2,3,4,48,49,50,51])
 (.seq (.cond (.tmp 51) .skip (.exit 0))
 (.seq
 (.block 1
 (.seq
 (.region
 [.mk (some 52) none (.idx 2 (.tmp 48) (.tmp 50)),
 .mk (some 53) none (.load true 2 (.tmp 52)),
 .mk (some 6) none
 (.alloc true 37 (.agg (Array.mk [.int .i64 0,.slice none 0 0]))),
 .mk none none (.store 2 (.tmp 6) (.tmp 53))]
 [0,2,3,4,6,48,49,50])
 (.seq
 (.region
 [.mk (some 55) none (.mv (.tmp 0)),.mk (some 56) none (.fld 1 (.tmp 6)),
 .mk (some 57) none (.load false 1 (.tmp 56)),
 .mk (some 58) none (.call (.func 190) [.tmp 55,.tmp 57]),
 .mk (some 54) none (.mv (.tmp 58)),
 .mk (some 59) none (.extract 0 (.tmp 54)),
 .mk (some 60) none (.extract 1 (.tmp 54)),
 .mk (some 61) none (.extract 2 (.tmp 54)),
 .mk (some 7) none (.mv (.tmp 59)),.mk (some 8) none (.mv (.tmp 60)),
 .mk (some 9) none (.mv (.tmp 61))]
 [0,2,3,4,6,7,8,9,48,49,50])
 (.seq
 (.region
 [.mk (some 62) none (.mv (.tmp 0)),
 .mk (some 63) none (.nilCheck (.tmp 62)),
 .mk (some 64) none (.fld 4 (.tmp 63)),
 .mk (some 65) none (.load false 1 (.tmp 64)),
 .mk (some 66) none
 (.ibin .add (.tmp 65) (.const (.int .i64 1))),
 .mk (some 67) none (.mv (.const (.int .i64 0)))]
 [0,2,3,4,6,7,8,9,48,49,50,66,67])
 (.block 2 (.loop S152_1 [67] [0,2,3,4,6,7,8,9,48,49,50,66]))))))
 (.region
 [.mk (some 134) none (.ibin .add (.tmp 50) (.const (.int .i64 1))),
 .mk (some 50) none (.mv (.tmp 134))]
 [0,2,3,4,48,49,50])))
def S152_0 : Stmt :=
 .seq
 (.drawn
 [(false,.mk (some 11) none (.mv (.tmp 0))),
 (false,.mk (some 12) none (.nilCheck (.tmp 11))),
 (false,.mk (some 13) none (.fld 0 (.tmp 12))),
 (false,.mk (some 14) none (.fld 1 (.tmp 13))),
 (false,.mk (some 15) none (.load false 1 (.tmp 14))),
 (false,.mk (some 16) none (.mv (.tmp 0))),
 (false,.mk (some 17) none (.nilCheck (.tmp 16))),
 (false,.mk (some 18) none (.fld 4 (.tmp 17))),
 (false,.mk (some 19) none (.load false 1 (.tmp 18))),
 (false,.mk (some 20) none (.ibin .add (.tmp 19) (.const (.int .i64 1)))),
 (false,.mk (some 22) none (.mv (.tmp 0))),
 (false,.mk (some 23) none (.nilCheck (.tmp 22))),
 (false,.mk (some 24) none (.fld 0 (.tmp 23))),
 (false,.mk (some 25) none (.fld 1 (.tmp 24))),
 (true,.mk (some 26) none (.load false 1 (.tmp 25))),
 (false,.mk (some 27) none (.mv (.tmp 0))),
 (false,.mk (some 28) none (.nilCheck (.tmp 27))),
 (false,.mk (some 29) none (.fld 4 (.tmp 28))),
 (true,.mk (some 30) none (.load false 1 (.tmp 29))),
 (false,.mk (some 31) none (.ibin .add (.tmp 30) (.const (.int .i64 1)))),
 (false,.mk (some 33) none (.mv (.tmp 0))),
 (false,.mk (some 34) none (.nilCheck (.tmp 33))),
 (false,.mk (some 35) none (.fld 0 (.tmp 34))),
 (false,.mk (some 36) none (.fld 1 (.tmp 35))),
 (true,.mk (some 37) none (.load false 1 (.tmp 36))),
 (false,.mk (some 38) none (.mv (.tmp 0))),
 (false,.mk (some 39) none (.nilCheck (.tmp 38))),
 (false,.mk (some 40) none (.fld 4 (.tmp 39))),
 (true,.mk (some 41) none (.load false 1 (.tmp 40))),
 (false,.mk (some 42) none (.ibin .add (.tmp 41) (.const (.int .i64 1)))),
 (false,.mk (some 21) none (.call (.func 120) [.tmp 15,.tmp 20])),
 (false,.mk (some 32) none (.call (.func 151) [.tmp 26,.tmp 31])),
 (false,.mk (some 43) none (.call (.func 151) [.tmp 37,.tmp 42])),
 (false,.mk (some 2) none (.mv (.tmp 21))),
 (false,.mk (some 3) none (.mv (.tmp 32))),
 (false,.mk (some 4) none (.mv (.tmp 43)))]
 [0,2,3,4])
 (.seq
 (.seq
 (.region
 [.mk (some 44) none (.mv (.tmp 0)),.mk (some 45) none (.nilCheck (.tmp 44)),
 .mk (some 46) none (.fld 0 (.tmp 45)),.mk (some 47) none (.fld 3 (.tmp 46)),
 .mk (some 48) none (.load false 1 (.tmp 47)),
 .mk (some 49) none (.len false (.tmp 48)),
 .mk (some 50) none (.mv (.const (.int .i64 0)))]
 [0,2,3,4,48,49,50])
 (.block 0 (.loop S152_2 [50] [0,2,3,4,48,49])))
 (.region
 [.mk (some 135) none (.mv (.tmp 0)),.mk (some 136) none (.mv (.tmp 0)),
 .mk (some 137) none (.mv (.tmp 0)),.mk (some 138) none (.mv (.tmp 2)),
 .mk (some 139) none (.mv (.tmp 3)),.mk (some 140) none (.mv (.tmp 4)),
 .mk (some 141) none (.nilCheck (.tmp 135)),
 .mk (some 142) none (.fld 5 (.tmp 141)),
 .mk none none (.store 1 (.tmp 142) (.tmp 138)),
 .mk (some 143) none (.nilCheck (.tmp 136)),
 .mk (some 144) none (.fld 6 (.tmp 143)),
 .mk none none (.store 1 (.tmp 144) (.tmp 139)),
 .mk (some 145) none (.nilCheck (.tmp 137)),
 .mk (some 146) none (.fld 7 (.tmp 145)),
 .mk none none (.store 1 (.tmp 146) (.tmp 140))]
 []))
def S152 : FnS := ⟨147,[],S152_0⟩
theorem tr152 : trFn Try.prog 152 [6] [[0,2,3,4],[0,1,2,3,4,5,6,7,8,9,11,12,13,14,15,16,17,18,19,20,22,23,24,25,26,27,28,29,30,31,10,21,32,33,34,35],[15,19,26,30],[],[0],[0,1],[0,1,2],[0,1,2,3],[],[5],[5,6],[5,6,7],[5,6,7,8],[0,1,2,3,4,5,6,7,8,9],[],[11],[11,12],[11,12,13],[11,12,13,14],[],[16],[16,17],[16,17,18],[16,17,18,19],[0,1,2,3,4,5,6,7,8,9,10,11,12,13,14,15,16,17,18,19,20],[],[22],[22,23],[22,23,24],[22,23,24,25],[],[27],[27,28],[27,28,29],[27,28,29,30],[0,1,2,3,4,5,6,7,8,9,10,11,12,13,14,15,16,17,18,19,20,21,22,23,24,25,26,27,28,29,30,31],[0,1,2,3,4,5,6,7,8,9,10,11,12,13,14,15,16,17,18,19,20,21,22,23,24,25,26,27,28,29,30,31,32],[0,1,2,3,4,5,6,7,8,9,10,11,12,13,14,15,16,17,18,19,20,21,22,23,24,25,26,27,28,29,30,31,32,33],[0,1,2,3,4,5,6,7,8,9,10,11,12,13,14,15,16,17,18,19,20,21,22,23,24,25,26,27,28,29,30,31,32,33,34],[0,2,3,4,48,49,50],[50],[0,2,3,4,48,49],[0,2,3,4,48,49,50,51],[0,2,3,4,6,48,49,50],[0,2,3,4,6,7,8,9,48,49,50],[0,2,3,4,6,7,8,9,48,49,50,66,67],[67],[0,2,3,4,6,7,8,9,48,49,50,66],[0,2,3,4,6,7,8,9,48,49,50,66,67,68],[0,2,3,4,6,7,8,9,10,48,49,50,66,67],[0,2,3,4,6,7,8,9,10,48,49,50,66,67],[0,1,2,3,4,5,6,7,8,9,10,11,12,13,14,15,16,17,18,19,20,21],[2,4],[],[],[1],[0,1,2],[0,1,2,3],[],[],[],[7],[6,7,8],[6,7,8,9],[],[6,7,8,9,10,11],[6,7,8,9,10,11,12],[],[],[14,15],[14,15,16],[6,7,8,9,10,11,12,13,14,15,16,17],[6,7,8,9,10,11,12,13,14,15,16,17,18],[0,1,2,3,4,5,6,7,8,9,10,11,12,13,14,15,16,17,18,19],[0,1,2,3,4,5,6,7,8,9,10,11,12,13,14,15,16,17,18,19,20],[0,2,3,4,6,7,8,9,10,48,49,50,66,67],[0,1,2,3,4,5,6,7,8,9,10,11,12,13,14,15,16,17,18,19,20,21],[],[],[],[1],[0,1,2],[0,1,2,3],[],[],[],[7],[6,7,8],[6,7,8,9],[],[6,7,8,9,10,11],[6,7,8,9,10,11,12],[6,7,8,9,10,11,12,13],[6,7,8,9,10,11,12,13,14],[6,7,8,9,10,11,12,13,14],[6,7,8,9,10,11,12,13,14,15,16],[6,7,8,9,10,11,12,13,14,15,16,17],[6,7,8,9,10,11,12,13,14,15,16,17,18],[0,1,2,3,4,5,6,7,8,9,10,11,12,13,14,15,16,17,18,19],[0,1,2,3,4,5,6,7,8,9,10,11,12,13,14,15,16,17,18,19,20],[0,2,3,4,6,7,8,9,48,49,50,66,67],[0,1,2,3,4,5,6,7,8,9,10,11,12,13,14,15,16,17,18,19,20,21],[],[],[],[1],[0,1,2],[0,1,2,3],[],[],[],[7],[6,7,8],[6,7,8,9],[],[6,7,8,9,10,11],[6,7,8,9,10,11,12],[6,7,8,9,10,11,12,13],[6,7,8,9,10,11,12,13,14],[6,7,8,9,10,11,12,13,14],[6,7,8,9,10,11,12,13,14,15,16],[6,7,8,9,10,11,12,13,14,15,16,17],[6,7,8,9,10,11,12,13,14,15,16,17,18],[0,1,2,3,4,5,6,7,8,9,10,11,12,13,14,15,16,17,18,19],[0,1,2,3,4,5,6,7,8,9,10,11,12,13,14,15,16,17,18,19,20],[0,2,3,4,6,7,8,9,48,49,50,66,67],[0,2,3,4,48,49,50],[]] = some S152 := by kernel_rfl
end Go.Proofs.Ytniobbepliknmaa.V
