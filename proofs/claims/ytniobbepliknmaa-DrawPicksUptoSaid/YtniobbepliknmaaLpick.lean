/- parllaw5.DrawPicks answers true; no condition. -/
import Derived.Test.YtniobbepliknmaaPpick
import Derived.Test.YtniobbepliknmaaS4
namespace Go.Proofs.Ytniobbepliknmaa.V
open Go
set_option linter.unusedVariables false
set_option linter.unusedSimpArgs false
attribute [local go_sem] e_seq e_region e_quiet e_join e_loop e_cond e_block e_exit e_ret e_skip e_fin e_kseq e_snrm e_sret e_sex e_bnrm e_bret e_bex e_rnrm e_rret e_res e_condC e_nil e_g e_mv g_mv e_pick g_pick pickC_eq e_ibin g_ibin ibinC_eq e_sbin g_sbin e_beq g_beq beqC_eq e_nilq g_nilq e_un g_un unC_not unC_neg e_conv g_conv convC_eq e_fld g_fld fldC_ref fldC_ptr e_nilCheck g_nilCheck nilCheckC_ref nilCheckC_ptr nilCheckC_fun e_field g_field fieldC_eq e_len g_len lenC_sl lenC_str e_extract g_extract extractC_eq e_mkFunc e_build g_build e_idiv g_idiv idivC_eq e_ishift g_ishift ishiftC_eq e_idx g_idx e_idxA g_idxA e_load g_load loadC_ref loadC_ptr loadB_eq e_slc g_slc e_box boxC_loc boxC_esc e_alloc allocC_loc allocC_esc e_buildS e_store storeC_ref storeC_ptr storeB_eq e_append e_mk mkC_eq e_call callC_eq e_callK look_nil look_c proj_nil proj_c looks_nil looks_c zip_nil zip_c val_tmp val_const val_func slv_v slv_box slv_ref slot_tmp slot_const slot_func slotL_v slotL_box slotL_ref put_some put_none updBox_c boxSet_box gd_eq slotVals_nil slotVals_c slotsOn_nil slotsOn_c resV_one resV_two vals_nil vals_c allOn_nil allOn_c partOn_nil partOn_c partVals_nil partVals_c fits_nil fits_c fillL_nil fillL_c mkv_one mkv_agg cellsV_agg cellsV_int cellsV_bool cellsV_slice cellsV_string cellsV_pointer cellsV_func cellsV_nilf cellsV_map one'_nil one'_c oc_int oc_bool oc_slice oc_string oc_pointer oc_func oc_nilf oc_map setC_eq iv_add iv_sub iv_mul iv_eql iv_neq iv_lss iv_leq iv_gtr iv_geq iok_add iok_sub iok_mul iok_eql iok_neq iok_lss iok_leq iok_gtr iok_geq pickV_bool args0_nil args0_c bnd_none bnd_some imp_bt imp_bf imp_ebt imp_ebf imp_eb1 imp_np imp_pp cond_or cond_and e_round e_meet beq_iff_eq Int.cast_ofNat_Int not_false_eq_true not_true_eq_false false_and and_false false_implies true_implies true_and and_true Bool.true_and Bool.and_true Bool.not_true Bool.not_false forall_const implies_true List.take_zero List.drop_zero List.take_succ_cons List.drop_succ_cons List.take_nil List.drop_nil List.length_cons List.length_nil List.nil_append List.append_nil List.cons_append Int.toNat_natCast decide_eq_true_eq decide_eq_false_iff_not cond_true cond_false and_self List.getElem?_cons_zero List.getElem?_cons_succ Option.some.injEq exists_eq_left' Nat.zero_add Nat.add_zero Nat.mul_one imp_self true_or or_true or_false false_or Bool.or_eq_true Bool.or_eq_false_iff Bool.and_eq_true Bool.and_eq_false_iff Bool.not_eq_true' Bool.not_eq_false'

theorem law_picks (h0 : PH) (A : Option Addr) (c : Nat) (ws : List Int) (B : Option Addr) (d : Nat) (coins : List Bool) (hw : SlOk h0 A c ws) (hc : SlOk h0 B d coins) :
    Ret Try.prog 4 [.slice A ws.length c, .slice B coins.length d] [h0] [] (fun v Γ => Γ = [] ∧ v = .bool true) := by
  generalize hR : (fun v Γ => Γ = [] ∧ v = _) = R
  refine ret_of_vc tr4 (Nat.le_of_ble_eq_true rfl) ?_
  simp only [S4, S4_0, go_sem, Nat.reduceBEq, Nat.reduceAdd, Nat.reduceSub, Nat.reduceMul, Nat.reduceLeDiff, reduceCtorEq, ↓reduceIte, Int.reduceLT, Int.reduceLE, Int.reduceEq, Int.reduceNe]
  intro b
  refine ⟨by omega, fun b' => ?_⟩
  have hl1 : SlOk (one b (.cells #[.int .i64 0, .int .i64 5] 3)) (some ⟨b, 0, none⟩) 2 [(0 : Int), 5] := by
    refine ⟨by simp, by simp [maxLen], by simp, .inr ⟨b, 0, _, _, _, rfl, if_pos rfl, fun i x hi => ⟨[.int .i64 x], rfl, fun j hj => ?_⟩⟩⟩
    match i, hi with
    | 0, hi | 1, hi =>
      simp at hi
      subst hi
      have : j = 0 := by simp [Rep.sz] at hj; exact hj
      subst this
      rfl
    | i + 2, hi => simp at hi
  have hl2 : SlOk (one b' (.cells (zerosL [.bool false] 3).toArray 4)) (some ⟨b', 0, none⟩) 3 [false, false, false] := by
    refine ⟨by simp, by simp [maxLen], by simp, .inr ⟨b', 0, _, _, _, rfl, if_pos rfl, fun i x hi => ⟨[.bool x], rfl, fun j hj => ?_⟩⟩⟩
    match i, hi with
    | 0, hi | 1, hi | 2, hi =>
      simp at hi
      subst hi
      have : j = 0 := by simp [Rep.sz] at hj; exact hj
      subst this
      rfl
    | i + 3, hi => simp at hi
  have e1 : pickedW [0, 5] [false, false, false] = (1, 3, 0) := by decide
  refine CallVC.read (draw_pick (by simp) (by simp) _ 2 [0, 5] _ 3 [false, false, false] hl1 hl2) ?_
  rintro v Γ' ⟨rfl, rfl⟩
  simp only [e1]
  simp only [go_sem, Nat.reduceBEq, Nat.reduceAdd, Nat.reduceSub, Nat.reduceMul, Nat.reduceLeDiff, reduceCtorEq, ↓reduceIte, Int.reduceLT, Int.reduceLE, Int.reduceEq, Int.reduceNe]
  refine CallVC.read (draw_pick (Γr := _) (by simp) (by simp) A c ws B d coins hw hc) ?_
  rintro v Γ' ⟨rfl, rfl⟩
  obtain ⟨⟨i, u, e⟩, hp⟩ : ∃ p, p = pickedW ws coins := ⟨_, rfl⟩
  rw [← hp]
  simp only [go_sem, Nat.reduceBEq, Nat.reduceAdd, Nat.reduceSub, Nat.reduceMul, Nat.reduceLeDiff, reduceCtorEq, ↓reduceIte, Int.reduceLT, Int.reduceLE, Int.reduceEq, Int.reduceNe]
  refine ⟨fun h => Up.to [] (Ent.nil _) ?_, fun h100 => ?_⟩
  · subst hR
    have : 100 < ws.length := by omega
    simp [pickedW, this] at hp
    exact ⟨rfl, by simp [hp]⟩
  have hno : ¬ 100 < ws.length := by omega
  refine s_loop (fun f vs Γ => Γ = [] ∧ ∃ k : Nat, vs = [.v true (.int .i64 (ws.take k).sum), .v true (.int .i64 k)] ∧ k + f = ws.length ∧ (∀ w ∈ ws.take k, ¬ badW w) ∧ 0 ≤ (ws.take k).sum ∧ (ws.take k).sum ≤ k * 1000000)
    ws.length (Up.to [] (Ent.nil _) ⟨rfl, 0, rfl, by omega, by simp, by simp, by simp⟩) ?_
  rintro f vs Γ ⟨rfl, k, rfl, hkf, hgood, hs0, hs1⟩
  simp only [S4_1, go_sem, Nat.reduceBEq, Nat.reduceAdd, Nat.reduceSub, Nat.reduceMul, Nat.reduceLeDiff, reduceCtorEq, ↓reduceIte, Int.reduceLT, Int.reduceLE, Int.reduceEq, Int.reduceNe]
  refine ⟨fun hlt => ?_, fun hge => ?_⟩
  · have hk : k < ws.length := by omega
    obtain ⟨b, o, rfl, hcells⟩ := hw.elem_int hk
    refine s_idx rfl (by omega) (by omega) ?_
    simp only [go_sem, Nat.reduceBEq, Nat.reduceAdd, Nat.reduceSub, Nat.reduceMul, Nat.reduceLeDiff, reduceCtorEq, ↓reduceIte, Int.reduceLT, Int.reduceLE, Int.reduceEq, Int.reduceNe]
    refine s_load (vs := [.int .i64 ws[k]]) (hcells _ (by simp)) ?_
    simp only [go_sem, Nat.reduceBEq, Nat.reduceAdd, Nat.reduceSub, Nat.reduceMul, Nat.reduceLeDiff, reduceCtorEq, ↓reduceIte, Int.reduceLT, Int.reduceLE, Int.reduceEq, Int.reduceNe]
    refine ⟨fun hbad => Up.here ?_, fun hok => ?_⟩
    · subst hR
      have : ∃ w ∈ ws, badW w := ⟨ws[k], List.getElem_mem _, hbad⟩
      simp [pickedW, hno, this] at hp
      exact ⟨rfl, by simp [hp]⟩
    · have hst := sum_take ws k hk
      have w1 : IntKind.i64.wrap ((ws.take k).sum + ws[k]) = (ws.take (k + 1)).sum := by rw [hst]; exact wrap_id (by omega) (by omega)
      have w2 : IntKind.i64.wrap ((k : Int) + 1) = ((k + 1 : Nat) : Int) := wrap_id (by omega) (by omega)
      simp only [w1, w2]
      refine ⟨f - 1, by omega, Up.here ⟨rfl, k + 1, rfl, by omega, ?_, by omega, by omega⟩⟩
      intro w hw'
      rw [List.take_succ_eq_append_getElem hk, List.mem_append] at hw'
      rcases hw' with q | q
      · exact hgood w q
      · simp at q
        subst q
        unfold badW
        omega
  · have hk : k = ws.length := by omega
    subst hk
    rw [List.take_length] at *
    have hgood' : ¬ ∃ w ∈ ws, badW w := fun ⟨w, q1, q2⟩ => hgood w q1 q2
    refine ⟨fun hz => Up.here ?_, fun hnz => ?_⟩
    · subst hR
      simp [pickedW, hno, hz] at hp
      exact ⟨rfl, by simp [hp]⟩
    obtain ⟨m, hm⟩ : ∃ m : Nat, ws.sum = m := ⟨ws.sum.toNat, by omega⟩
    have hmz : ¬ (m : Int) = 0 := by omega
    simp only [pickedW, hno, hgood', hm, hmz, if_false, or_self, Int.toNat_natCast] at hp
    rw [hm]
    refine CallVC.pure (ref_coins h0 m (by omega) (by omega) B d coins hc) (List.sublist_append_right _ _) ?_
    rintro v Γ' ⟨rfl, rfl⟩
    cases hcf : coinsF m coins with
    | none =>
      rw [hcf] at hp
      simp at hp
      simp only [go_sem, Nat.reduceBEq, Nat.reduceAdd, Nat.reduceSub, Nat.reduceMul, Nat.reduceLeDiff, reduceCtorEq, ↓reduceIte, Int.reduceLT, Int.reduceLE, Int.reduceEq, Int.reduceNe]
      refine Up.here ?_
      subst hR
      exact ⟨rfl, by simp [hp]⟩
    | some xu =>
      obtain ⟨x, v⟩ := xu
      rw [hcf] at hp
      have hx := coinsF_lt hcf
      simp only at hp
      simp only [go_sem, Nat.reduceBEq, Nat.reduceAdd, Nat.reduceSub, Nat.reduceMul, Nat.reduceLeDiff, reduceCtorEq, ↓reduceIte, Int.reduceLT, Int.reduceLE, Int.reduceEq, Int.reduceNe]
      refine s_loop (fun f vs Γ => Γ = [] ∧ ∃ (k : Nat) (y : Int), vs = [.v true (.int .i64 y), .v true (.int .i64 k)] ∧ k + f = ws.length ∧ 0 ≤ y ∧ y ≤ 1000000000 ∧ y < (ws.drop k).sum ∧ pickI (ws.drop k) y k = pickI ws x 0)
        ws.length (Up.here ⟨rfl, 0, x, rfl, by omega, by omega, by omega, by rw [List.drop_zero]; omega, rfl⟩) ?_
      rintro f vs Γ ⟨rfl, k, y, rfl, hkf, hy0, hy1, hys, hpk⟩
      simp only [S4_2, go_sem, Nat.reduceBEq, Nat.reduceAdd, Nat.reduceSub, Nat.reduceMul, Nat.reduceLeDiff, reduceCtorEq, ↓reduceIte, Int.reduceLT, Int.reduceLE, Int.reduceEq, Int.reduceNe]
      refine ⟨fun hlt => ?_, fun hge => ?_⟩
      · have hk : k < ws.length := by omega
        obtain ⟨b, o, rfl, hcells⟩ := hw.elem_int hk
        refine s_idx rfl (by omega) (by omega) ?_
        simp only [go_sem, Nat.reduceBEq, Nat.reduceAdd, Nat.reduceSub, Nat.reduceMul, Nat.reduceLeDiff, reduceCtorEq, ↓reduceIte, Int.reduceLT, Int.reduceLE, Int.reduceEq, Int.reduceNe]
        refine s_load (vs := [.int .i64 ws[k]]) (hcells _ (by simp)) ?_
        simp only [go_sem, Nat.reduceBEq, Nat.reduceAdd, Nat.reduceSub, Nat.reduceMul, Nat.reduceLeDiff, reduceCtorEq, ↓reduceIte, Int.reduceLT, Int.reduceLE, Int.reduceEq, Int.reduceNe]
        rw [drop_cons ws k hk, pickI] at hpk
        rw [drop_cons ws k hk, List.sum_cons] at hys
        have hg := hgood ws[k] (List.getElem_mem _)
        unfold badW at hg
        refine ⟨fun hyw => Up.here ?_, fun hyw => ?_⟩
        · rw [if_pos hyw] at hpk
          rw [← hpk] at hp
          simp at hp
          subst hR
          exact ⟨rfl, by simp [hp]⟩
        · rw [if_neg hyw] at hpk
          have w1 : IntKind.i64.wrap (y - ws[k]) = y - ws[k] := wrap_id (by omega) (by omega)
          have w2 : IntKind.i64.wrap ((k : Int) + 1) = ((k + 1 : Nat) : Int) := wrap_id (by omega) (by omega)
          simp only [w1, w2]
          exact ⟨f - 1, by omega, Up.here ⟨rfl, k + 1, _, rfl, by omega, by omega, by omega, by omega, hpk⟩⟩
      · have hk : k = ws.length := by omega
        subst hk
        rw [List.drop_length] at hys
        simp at hys
        omega
end Go.Proofs.Ytniobbepliknmaa.V
