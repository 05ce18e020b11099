/- parllaw5.DrawNumbers answers true; no condition. -/
import Derived.Test.YtniobbepliknmaaPdraw
import Derived.Test.YtniobbepliknmaaS3
namespace Go.Proofs.Ytniobbepliknmaa.V
open Go
set_option linter.unusedVariables false
set_option linter.unusedSimpArgs false
attribute [local go_sem] e_seq e_region e_quiet e_join e_loop e_cond e_block e_exit e_ret e_skip e_fin e_kseq e_snrm e_sret e_sex e_bnrm e_bret e_bex e_rnrm e_rret e_res e_condC e_nil e_g e_mv g_mv e_pick g_pick pickC_eq e_ibin g_ibin ibinC_eq e_sbin g_sbin e_beq g_beq beqC_eq e_nilq g_nilq e_un g_un unC_not unC_neg e_conv g_conv convC_eq e_fld g_fld fldC_ref fldC_ptr e_nilCheck g_nilCheck nilCheckC_ref nilCheckC_ptr nilCheckC_fun e_field g_field fieldC_eq e_len g_len lenC_sl lenC_str e_extract g_extract extractC_eq e_mkFunc e_build g_build e_idiv g_idiv idivC_eq e_ishift g_ishift ishiftC_eq e_idx g_idx e_idxA g_idxA e_load g_load loadC_ref loadC_ptr loadB_eq e_slc g_slc e_box boxC_loc boxC_esc e_alloc allocC_loc allocC_esc e_buildS e_store storeC_ref storeC_ptr storeB_eq e_append e_mk mkC_eq e_call callC_eq e_callK look_nil look_c proj_nil proj_c looks_nil looks_c zip_nil zip_c val_tmp val_const val_func slv_v slv_box slv_ref slot_tmp slot_const slot_func slotL_v slotL_box slotL_ref put_some put_none updBox_c boxSet_box gd_eq slotVals_nil slotVals_c slotsOn_nil slotsOn_c resV_one resV_two vals_nil vals_c allOn_nil allOn_c partOn_nil partOn_c partVals_nil partVals_c fits_nil fits_c fillL_nil fillL_c mkv_one mkv_agg cellsV_agg cellsV_int cellsV_bool cellsV_slice cellsV_string cellsV_pointer cellsV_func cellsV_nilf cellsV_map one'_nil one'_c oc_int oc_bool oc_slice oc_string oc_pointer oc_func oc_nilf oc_map setC_eq iv_add iv_sub iv_mul iv_eql iv_neq iv_lss iv_leq iv_gtr iv_geq iok_add iok_sub iok_mul iok_eql iok_neq iok_lss iok_leq iok_gtr iok_geq pickV_bool args0_nil args0_c bnd_none bnd_some imp_bt imp_bf imp_ebt imp_ebf imp_eb1 imp_np imp_pp cond_or cond_and e_round e_meet beq_iff_eq Int.cast_ofNat_Int not_false_eq_true not_true_eq_false false_and and_false false_implies true_implies true_and and_true Bool.true_and Bool.and_true Bool.not_true Bool.not_false forall_const implies_true List.take_zero List.drop_zero List.take_succ_cons List.drop_succ_cons List.take_nil List.drop_nil List.length_cons List.length_nil List.nil_append List.append_nil List.cons_append Int.toNat_natCast decide_eq_true_eq decide_eq_false_iff_not cond_true cond_false and_self List.getElem?_cons_zero List.getElem?_cons_succ Option.some.injEq exists_eq_left' Nat.zero_add Nat.add_zero Nat.mul_one imp_self true_or or_true or_false false_or Bool.or_eq_true Bool.or_eq_false_iff Bool.and_eq_true Bool.and_eq_false_iff Bool.not_eq_true' Bool.not_eq_false'

theorem law_numbers (h0 : PH) (n : Int) (A : Option Addr) (c : Nat) (coins : List Bool) (hc : SlOk h0 A c coins) :
    Ret Try.prog 3 [.int .i64 n, .slice A coins.length c] [h0] [] (fun v Γ => Γ = [] ∧ v = .bool true) := by
  generalize hR : (fun v Γ => Γ = [] ∧ v = _) = R
  refine ret_of_vc tr3 (Nat.le_of_ble_eq_true rfl) ?_
  simp only [S3, S3_0, go_sem, Nat.reduceBEq, Nat.reduceAdd, Nat.reduceSub, Nat.reduceMul, Nat.reduceLeDiff, reduceCtorEq, ↓reduceIte, Int.reduceLT, Int.reduceLE, Int.reduceEq, Int.reduceNe]
  intro b
  have hlit : SlOk (one b (.cells #[.bool true, .bool true, .bool true, .bool false] 4)) (some ⟨b, 0, none⟩) 4 [true, true, true, false] := by
    refine ⟨by simp, by simp [maxLen], by simp, .inr ⟨b, 0, _, _, _, rfl, if_pos rfl, fun i x hi => ⟨[.bool x], rfl, fun j hj => ?_⟩⟩⟩
    match i, hi with
    | 0, hi | 1, hi | 2, hi | 3, hi =>
      simp at hi
      subst hi
      have : j = 0 := by simp [Rep.sz] at hj; exact hj
      subst this
      rfl
    | i + 4, hi => simp at hi
  refine CallVC.pure (draw_number _ 3 _ 4 [true, true, true, false] hlit) (List.sublist_append_left _ _) ?_
  rintro v Γ' ⟨rfl, rfl⟩
  have e1 : coinsF (3 : Int).toNat [true, true, true, false] = some (2, 4) := by decide
  simp only [e1]
  simp only [go_sem, Nat.reduceBEq, Nat.reduceAdd, Nat.reduceSub, Nat.reduceMul, Nat.reduceLeDiff, reduceCtorEq, ↓reduceIte, Int.reduceLT, Int.reduceLE, Int.reduceEq, Int.reduceNe]
  refine CallVC.pure (draw_number h0 n A c coins hc) (List.sublist_append_right _ _) ?_
  rintro v Γ' ⟨rfl, rfl⟩
  by_cases hn : n < 1 ∨ 1000000000 < n
  · rw [if_pos hn]
    simp only [go_sem, Nat.reduceBEq, Nat.reduceAdd, Nat.reduceSub, Nat.reduceMul, Nat.reduceLeDiff, reduceCtorEq, ↓reduceIte, Int.reduceLT, Int.reduceLE, Int.reduceEq, Int.reduceNe]
    refine ⟨fun _ => Up.to [] (Ent.nil _) ?_, fun q => by omega⟩
    subst hR
    exact ⟨rfl, by simp⟩
  · rw [if_neg hn]
    obtain ⟨m, rfl⟩ : ∃ m : Nat, n = m := ⟨n.toNat, by omega⟩
    have hq := ref_coins h0 m (by omega) (by omega) A c coins hc
    simp only [Int.toNat_natCast]
    cases hcf : coinsF m coins with
    | none =>
      rw [hcf] at hq
      simp only [go_sem, Nat.reduceBEq, Nat.reduceAdd, Nat.reduceSub, Nat.reduceMul, Nat.reduceLeDiff, reduceCtorEq, ↓reduceIte, Int.reduceLT, Int.reduceLE, Int.reduceEq, Int.reduceNe]
      refine ⟨fun q => by omega, fun _ => CallVC.pure hq (List.sublist_append_right _ _) ?_⟩
      rintro v Γ' ⟨rfl, rfl⟩
      simp only [go_sem, Nat.reduceBEq, Nat.reduceAdd, Nat.reduceSub, Nat.reduceMul, Nat.reduceLeDiff, reduceCtorEq, ↓reduceIte, Int.reduceLT, Int.reduceLE, Int.reduceEq, Int.reduceNe]
      refine Up.to [] (Ent.nil _) ?_
      subst hR
      exact ⟨rfl, by simp⟩
    | some xu =>
      rw [hcf] at hq
      simp only [go_sem, Nat.reduceBEq, Nat.reduceAdd, Nat.reduceSub, Nat.reduceMul, Nat.reduceLeDiff, reduceCtorEq, ↓reduceIte, Int.reduceLT, Int.reduceLE, Int.reduceEq, Int.reduceNe]
      refine ⟨fun q => by omega, fun _ => CallVC.pure hq (List.sublist_append_right _ _) ?_⟩
      rintro v Γ' ⟨rfl, rfl⟩
      simp only [go_sem, Nat.reduceBEq, Nat.reduceAdd, Nat.reduceSub, Nat.reduceMul, Nat.reduceLeDiff, reduceCtorEq, ↓reduceIte, Int.reduceLT, Int.reduceLE, Int.reduceEq, Int.reduceNe]
      refine Up.to [] (Ent.nil _) ?_
      subst hR
      exact ⟨rfl, by simp⟩
end Go.Proofs.Ytniobbepliknmaa.V
