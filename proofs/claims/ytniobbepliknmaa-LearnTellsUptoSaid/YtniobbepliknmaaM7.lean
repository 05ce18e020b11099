/- Texts put together, in the order in which they build; each says what it proves; no condition. -/
import Derived.Test.YtniobbepliknmaaM6
import Derived.Test.YtniobbepliknmaaM2
import Derived.Test.YtniobbepliknmaaProg
import Derived.Test.YtniobbepliknmaaM5
import Derived.Test.YtniobbepliknmaaM4
/- learn.table.close walked; no condition. -/
namespace Go.Proofs.Ytniobbepliknmaa.V
open Go
set_option linter.unusedVariables false
set_option linter.unusedSimpArgs false
attribute [local go_sem] e_seq e_region e_quiet e_join e_loop e_cond e_block e_exit e_ret e_skip e_fin e_kseq e_snrm e_sret e_sex e_bnrm e_bret e_bex e_rnrm e_rret e_res e_condC e_nil e_g e_mv g_mv e_pick g_pick pickC_eq e_ibin g_ibin ibinC_eq e_sbin g_sbin e_beq g_beq beqC_eq e_nilq g_nilq nilqC_sl nilqC_pt nilqC_mp e_un g_un unC_not unC_neg e_conv g_conv convC_eq e_fld g_fld fldC_ref fldC_ptr e_nilCheck g_nilCheck nilCheckC_ref nilCheckC_ptr nilCheckC_fun e_field g_field fieldC_eq e_len g_len lenC_sl lenC_str e_extract g_extract extractC_eq e_mkFunc e_build g_build e_idiv g_idiv idivC_eq e_ishift g_ishift ishiftC_eq e_idx g_idx e_idxA g_idxA e_load g_load e_loadB g_loadB atB_ref atB_v g_mkFunc loadC_ref loadC_ptr loadB_eq e_slc g_slc e_box boxC_loc boxC_esc e_alloc allocC_loc allocC_esc e_buildS e_store storeC_ref storeC_ptr storeB_eq e_append e_appz e_mk mkC_eq e_call callC_eq e_fn g_fn fnC_eq fnV_min' fnV_max' fnV_rune' e_q g_q e_a e_n g_call g_box g_alloc g_buildS g_store g_append g_mk g_a g_n g_dead e_dead e_callK e_drawn e_tree e_finJ e_tk e_tfin e_tno e_nbt_q e_nbt_qn e_nbt_a e_nbt_an e_nbt_fin e_drawnB e_bxb_nil e_bxb e_stB_none e_stB_some boxSt_store bs_mv bs_pick bs_ibin bs_idiv bs_ishift bs_sbin bs_beq bs_nilq bs_un bs_conv bs_box bs_alloc bs_build bs_buildS bs_load bs_fld bs_nilCheck bs_idx bs_idxA bs_field bs_slc bs_len bs_append bs_appz bs_mk bs_call bs_extract bs_mkFunc bs_fn bs_q bs_a bs_n bs_loadB bs_dead isBox_box e_early_nil e_early_t e_early_f e_nob_nil e_nob_none e_nob_some isBox_dead isBox_v isBox_ref e_dnil e_dk e_ek e_finB vcOps_vc1 e_dcons e_tq e_ekt e_tearly e_talt e_dearly look_nil look_c proj_nil proj_c looks_nil looks_c zip_nil zip_c val_tmp val_const val_func slv_v slv_box slv_ref slot_tmp slot_const slot_func slotL_v slotL_box slotL_ref put_some put_none updBox_c boxSet_box gd_eq slotVals_nil slotVals_c slotVals_b boxV_box boxOn_box slotsOn_nil slotsOn_c slotsOn_b resV_one resV_two vals_nil vals_c allOn_nil allOn_c partOn_nil partOn_c partVals_nil partVals_c fits_nil fits_c fillL_nil fillL_c mkv_one mkv_agg cellsV_agg cellsV_int cellsV_bool cellsV_slice cellsV_string cellsV_pointer cellsV_func cellsV_nilf cellsV_map one'_nil one'_c oc_int oc_bool oc_slice oc_string oc_pointer oc_func oc_nilf oc_map setC_eq iv_add iv_sub iv_mul iv_eql iv_neq iv_lss iv_leq iv_gtr iv_geq iok_add iok_sub iok_mul iok_eql iok_neq iok_lss iok_leq iok_gtr iok_geq pickV_bool args0_nil args0_c bnd_none bnd_some imp_bt imp_bf imp_ebt imp_ebf imp_eb1 imp_np imp_pp beq_tt beq_tf beq_ft beq_ff cond_or cond_and e_round e_meet Int.le_refl Int.toNat_zero decide_true decide_false Bool.or_false Bool.false_or Bool.true_or Bool.or_true Bool.and_false Bool.false_and Bool.bne_false Bool.bne_true beq_iff_eq Int.cast_ofNat_Int not_false_eq_true not_true_eq_false false_and and_false false_implies true_implies true_and and_true Bool.true_and Bool.and_true Bool.not_true Bool.not_false forall_const implies_true List.take_zero List.drop_zero List.take_succ_cons List.drop_succ_cons List.take_nil List.drop_nil List.length_cons List.length_nil List.nil_append List.append_nil List.cons_append Int.toNat_natCast decide_eq_true_eq decide_eq_false_iff_not cond_true cond_false and_self List.getElem?_cons_zero List.getElem?_cons_succ List.set_cons_zero List.set_cons_succ Option.some.injEq exists_eq_left' Nat.zero_add Nat.add_zero Nat.mul_one imp_self true_or or_true or_false false_or Bool.or_eq_true Bool.or_eq_false_iff Bool.and_eq_true Bool.and_eq_false_iff Bool.not_eq_true' Bool.not_eq_false'

/-- a learner's table in memory -/
def TabW (t bk k : Nat) (fv : Value) (L : List Int → Bool) (ends rows : List (List Int)) (Γ : Ctx) : Prop := ∃ (gk gt gr gl ge gf : PH) (Ar Ae : Option Addr) (cr ce : Nat), Γ = [gk, gt, gr, gl, ge, gf] ∧
  gt t = some (.cells [.int .i64 (k : Int), fv, .map (some bk), .slice Ar rows.length cr, .slice Ae ends.length ce].toArray 198 (0, 0)) ∧ Bld gr (lk [gl]) 29 (.slice Ar rows.length cr) rows ∧ Bld ge (lk [gf]) 29 (.slice Ae ends.length ce) ends ∧ Known gk bk k L
/-- the set of what words are marked with -/
def SeenB (X : List (List UInt8)) (ms : List (List Bool)) : Prop := ∀ m, bitB m ∈ X ↔ m ∈ ms
theorem SeenB.add {X : List (List UInt8)} {ms : List (List Bool)} (h : SeenB X ms) (m : List Bool) : SeenB (addT X (bitB m)) (ms ++ [m]) := fun x => by
  rw [addT_mem, h x, List.mem_append, List.mem_singleton]
  exact or_congr_right ⟨bitB_inj, fun e => by rw [e]⟩
theorem bitB_len (m : List Bool) : (bitB m).length = m.length := by simp [bitB]
theorem markL_len (L : List Int → Bool) (ends : List (List Int)) (w : List Int) : (markL L ends w).length = ends.length := by simp [markL]
theorem learn_close {Γr : Ctx} {t bk k N : Nat} {fv : Value} {L : List Int → Bool} (hm : MemOk Γr fv k L) (hk : 1 ≤ k ∧ k ≤ 16) (hN : ClsL L k N) (hN2 : N ≤ 200) {ends rows0 : List (List Int)} (hel : ends.length ≤ 900) (hT0 : TabL L k ends rows0) {Γ0 : Ctx} (hW : TabW t bk k fv L ends rows0 Γ0) :
    Ret Try.prog 155 [.pointer (some ⟨t, 0, none⟩)] Γr Γ0 (fun v Γ => ∃ rows, v = .bool true ∧ TabW t bk k fv L ends rows Γ ∧ TabL L k ends rows ∧ rows0 <+: rows ∧ ClosL L k ends rows) := by
  generalize hR : (fun (v : Value) (Γ : Ctx) => ∃ rows, _) = R
  refine ret_of_vc tr155 (Nat.le_of_ble_eq_true rfl) ?_
  obtain ⟨gk, gt, gr, gl, ge, gf, Ar, Ae, cr, ce, rfl, hgt, hBr, hBe, hK⟩ := hW
  have hb0 := hT0.bound hN
  have hmk : ∀ w, (markL L ends w).length ≤ 900 := fun w => by rw [markL_len]; omega
  obtain ⟨Ae1, ce1, ee, hSe⟩ := hBe.slok (L' := lk [ge, gf]) (lk_sub (by simp)) (lk_sub (by simp)) (by omega)
  simp only [Value.slice.injEq, true_and] at ee
  obtain ⟨rfl, rfl⟩ := ee
  obtain ⟨Ar1, cr1, er, hSr⟩ := hBr.slok (L' := lk [gr, gl]) (lk_sub (by simp)) (lk_sub (by simp)) (by omega)
  simp only [Value.slice.injEq, true_and] at er
  obtain ⟨rfl, rfl⟩ := er
  simp -implicitDefEqProofs only [S155, S155_0, go_sem, Nat.reduceBEq, Nat.reduceAdd, Nat.reduceSub, Nat.reduceMul, Nat.reduceLeDiff, reduceCtorEq, ↓reduceIte, Int.reduceLT, Int.reduceLE, Int.reduceEq, Int.reduceNe]
  refine s_mkmap fun bs => ?_
  simp -implicitDefEqProofs only [go_sem, Nat.reduceBEq, Nat.reduceAdd, Nat.reduceSub, Nat.reduceMul, Nat.reduceLeDiff, reduceCtorEq, ↓reduceIte, Int.reduceLT, Int.reduceLE, Int.reduceEq, Int.reduceNe]
  refine s_ld (j := 3) (cells_lk ⟨gt, by simp, hgt⟩) (by simp) (by simp) ?_
  simp -implicitDefEqProofs only [go_sem, Nat.reduceBEq, Nat.reduceAdd, Nat.reduceSub, Nat.reduceMul, Nat.reduceLeDiff, reduceCtorEq, ↓reduceIte, Int.reduceLT, Int.reduceLE, Int.reduceEq, Int.reduceNe]
  refine s_loop (fun f vs Γ => ∃ (i : Nat) (gk gs : PH) (X : List (List UInt8)), vs = [.v true (.int .i64 i)] ∧ i + f = rows0.length ∧ Γ = [gk, gs, gt, gr, gl, ge, gf] ∧ Known gk bk k L ∧ StrM gs bs X ∧ SeenB X ((rows0.take i).map (markL L ends))) rows0.length
    (Up.sel [[1], [0], [2], [3], [4], [5], [6]] (by decide) fun _ _ => ⟨0, _, _, [], rfl, by omega, rfl, hK, MapM.new _ _ _ _, by intro m; simp⟩) ?_
  clear hK
  rintro f vs Γ ⟨i, gk, gs, X, rfl, hif, rfl, hK, hX, hSB⟩
  simp -implicitDefEqProofs only [S155_1, go_sem, Nat.reduceBEq, Nat.reduceAdd, Nat.reduceSub, Nat.reduceMul, Nat.reduceLeDiff, reduceCtorEq, ↓reduceIte, Int.reduceLT, Int.reduceLE, Int.reduceEq, Int.reduceNe]
  refine ⟨fun hlt => ?_, fun hge => ?_⟩
  · have hi : i < rows0.length := by omega
    obtain ⟨b1, o1, hA1, A2, c2, hr2, hc2⟩ := hSr.list hi
    have hrok := hT0.rok i _ (List.getElem?_eq_getElem hi)
    have htk : rows0.take (i + 1) = rows0.take i ++ [rows0[i]] := List.take_succ_eq_append_getElem hi
    refine s_idx hA1 (by omega) (by omega) ?_
    simp -implicitDefEqProofs only [go_sem, Nat.reduceBEq, Nat.reduceAdd, Nat.reduceSub, Nat.reduceMul, Nat.reduceLeDiff, reduceCtorEq, ↓reduceIte, Int.reduceLT, Int.reduceLE, Int.reduceEq, Int.reduceNe]
    refine s_ld0 (hc2 _ (lk_sub fun g hg => by simp at hg; rcases hg with rfl | rfl <;> simp)) (by simp) (by simp) ?_
    simp -implicitDefEqProofs only [go_sem, Nat.reduceBEq, Nat.reduceAdd, Nat.reduceSub, Nat.reduceMul, Nat.reduceLeDiff, reduceCtorEq, ↓reduceIte, Int.reduceLT, Int.reduceLE, Int.reduceEq, Int.reduceNe]
    refine CallVC.head (learn_mark (Γr := [gs, gt, gr, gl, ge, gf] ++ Γr) ⟨gt, by simp, hgt⟩ (hSe.mono (lk_sub fun g hg => by simp at hg; rcases hg with rfl | rfl <;> simp)) (by omega) hT0.eok (hm.mono (lk_r _ _)) hK hk.2 (hr2.mono (lk_sub fun g hg => by simp at hg; rcases hg with rfl | rfl <;> simp)) hrok.1 (by omega)) (List.Sublist.refl _) ?_
    rintro v Γ' ⟨gk', rfl, hK', rfl⟩
    simp -implicitDefEqProofs only [go_sem, Nat.reduceBEq, Nat.reduceAdd, Nat.reduceSub, Nat.reduceMul, Nat.reduceLeDiff, reduceCtorEq, ↓reduceIte, Int.reduceLT, Int.reduceLE, Int.reduceEq, Int.reduceNe]
    refine s_addT (kt := 9) (ix := 1) (by kernel_rfl) (by kernel_rfl) rfl hX (by rw [bitB_len]; have := hmk rows0[i]; omega) ?_
    intro gs' hX' _
    simp -implicitDefEqProofs only [go_sem, Nat.reduceBEq, Nat.reduceAdd, Nat.reduceSub, Nat.reduceMul, Nat.reduceLeDiff, reduceCtorEq, ↓reduceIte, Int.reduceLT, Int.reduceLE, Int.reduceEq, Int.reduceNe]
    simp (disch := omega) only [wrap_id]
    refine ⟨f - 1, by omega, Up.here ⟨i + 1, gk', gs', _, rfl, by omega, rfl, hK', hX', ?_⟩⟩
    rw [htk, List.map_append]
    exact hSB.add _
  · have hi : i = rows0.length := by omega
    subst hi
    rw [List.take_length] at hSB
    refine s_loop (fun f vs Γ => ∃ (i : Nat) (rows : List (List Int)) (gk gs gt gr gl gx : PH) (X : List (List UInt8)) (Ar : Option Addr) (cr : Nat), vs = [.v true (.int .i64 i)] ∧ i + f = N ∧ Γ = [gk, gs, gt, gr, gl, ge, gf, gx] ∧ Known gk bk k L ∧ StrM gs bs X ∧ SeenB X (rows.map (markL L ends)) ∧
        gt t = some (.cells [.int .i64 (k : Int), fv, .map (some bk), .slice Ar rows.length cr, .slice Ae ends.length ce].toArray 198 (0, 0)) ∧ Bld gr (lk [gl]) 29 (.slice Ar rows.length cr) rows ∧ TabL L k ends rows ∧ rows0 <+: rows ∧
        ∀ (j : Nat) (u : List Int), j < i → rows[j]? = some u → ∀ c : Nat, c < k → markL L ends (u ++ [(c : Int)]) ∈ rows.map (markL L ends)) N
      (Up.sel [[0], [1], [2], [3], [4], [5], [6], []] (by decide) fun _ _ => ⟨0, rows0, _, _, _, _, _, _, X, Ar, cr, rfl, by omega, rfl, hK, hX, hSB, hgt, hBr, hT0, List.prefix_refl _, by intro j u h; omega⟩) ?_
    clear hK hX hSB hgt hBr hSr
    rintro f vs Γ ⟨i, rows, gk, gs, gt, gr, gl, gx, X, Ar, cr, rfl, hif, rfl, hK, hX, hSB, hgt, hBr, hT, hpre, hcl⟩
    have hb := hT.bound hN
    simp -implicitDefEqProofs only [S155_7, go_sem, Nat.reduceBEq, Nat.reduceAdd, Nat.reduceSub, Nat.reduceMul, Nat.reduceLeDiff, reduceCtorEq, ↓reduceIte, Int.reduceLT, Int.reduceLE, Int.reduceEq, Int.reduceNe]
    refine s_ld (j := 3) (cells_lk ⟨gt, by simp, hgt⟩) (by simp) (by simp) ?_
    simp -implicitDefEqProofs only [go_sem, Nat.reduceBEq, Nat.reduceAdd, Nat.reduceSub, Nat.reduceMul, Nat.reduceLeDiff, reduceCtorEq, ↓reduceIte, Int.reduceLT, Int.reduceLE, Int.reduceEq, Int.reduceNe]
    refine ⟨fun hlt => ?_, fun hge => ?_⟩
    · have hi : i < rows.length := by omega
      refine s_ld0 (cells_lk ⟨gt, by simp, hgt⟩) (by simp) (by simp) ?_
      simp -implicitDefEqProofs only [go_sem, Nat.reduceBEq, Nat.reduceAdd, Nat.reduceSub, Nat.reduceMul, Nat.reduceLeDiff, reduceCtorEq, ↓reduceIte, Int.reduceLT, Int.reduceLE, Int.reduceEq, Int.reduceNe]
      obtain ⟨u, hu⟩ : ∃ u, u = rows[i] := ⟨_, rfl⟩
      have hui : rows[i]? = some u := by rw [hu]; exact List.getElem?_eq_getElem hi
      refine s_loop (fun f vs Γ => ∃ (c : Nat) (rows : List (List Int)) (gk gs gt gr gl gx : PH) (X : List (List UInt8)) (Ar : Option Addr) (cr : Nat), vs = [.v true (.int .i64 c)] ∧ c + f = k ∧ Γ = [gk, gs, gt, gr, gl, ge, gf, gx] ∧ Known gk bk k L ∧ StrM gs bs X ∧ SeenB X (rows.map (markL L ends)) ∧
          gt t = some (.cells [.int .i64 (k : Int), fv, .map (some bk), .slice Ar rows.length cr, .slice Ae ends.length ce].toArray 198 (0, 0)) ∧ Bld gr (lk [gl]) 29 (.slice Ar rows.length cr) rows ∧ TabL L k ends rows ∧ rows0 <+: rows ∧
          (∀ (j : Nat) (u : List Int), j < i → rows[j]? = some u → ∀ c : Nat, c < k → markL L ends (u ++ [(c : Int)]) ∈ rows.map (markL L ends)) ∧ rows[i]? = some u ∧ ∀ c', c' < c → markL L ends (u ++ [((c' : Nat) : Int)]) ∈ rows.map (markL L ends)) k
        (Up.here ⟨0, rows, gk, gs, gt, gr, gl, gx, X, Ar, cr, rfl, by omega, rfl, hK, hX, hSB, hgt, hBr, hT, hpre, hcl, hui, by intro c' h; omega⟩) ?_
      clear hK hX hSB hgt hBr hT hpre hcl hui hb hu hi hlt
      rintro f2 vs Γ ⟨c, rows, gk, gs, gt, gr, gl, gx, X, Ar, cr, rfl, hcf, rfl, hK, hX, hSB, hgt, hBr, hT, hpre, hcl, hui, hcu⟩
      have hb := hT.bound hN
      simp -implicitDefEqProofs only [S155_6, go_sem, Nat.reduceBEq, Nat.reduceAdd, Nat.reduceSub, Nat.reduceMul, Nat.reduceLeDiff, reduceCtorEq, ↓reduceIte, Int.reduceLT, Int.reduceLE, Int.reduceEq, Int.reduceNe]
      refine ⟨fun hlt2 => ?_, fun hge2 => ?_⟩
      · have hc : c < k := by omega
        have hi := (List.getElem?_eq_some_iff.1 hui).1
        have hue := (List.getElem?_eq_some_iff.1 hui).2
        have hrok := hT.rok i u hui
        obtain ⟨Ar1, cr1, er, hSr⟩ := hBr.slok (L' := lk [gr, gl]) (lk_sub (by simp)) (lk_sub (by simp)) (by omega)
        simp only [Value.slice.injEq, true_and] at er
        obtain ⟨rfl, rfl⟩ := er
        obtain ⟨b1, o1, hA1, A2, c2, hr2, hc2⟩ := hSr.list hi
        rw [hue] at hr2 hc2
        obtain ⟨w, hw⟩ : ∃ w, w = u ++ [(c : Int)] := ⟨_, rfl⟩
        have hwl : w.length = u.length + 1 := by rw [hw]; simp
        have hwok : okK k w := by rw [hw]; exact okK_app.2 ⟨hrok.1, okK_one hc⟩
        refine s_split ?_
        simp -implicitDefEqProofs only [S155_4, S155_5, go_sem, Nat.reduceBEq, Nat.reduceAdd, Nat.reduceSub, Nat.reduceMul, Nat.reduceLeDiff, reduceCtorEq, ↓reduceIte, Int.reduceLT, Int.reduceLE, Int.reduceEq, Int.reduceNe]
        refine s_ld (j := 3) (cells_lk ⟨gt, by simp, hgt⟩) (by simp) (by simp) ?_
        simp -implicitDefEqProofs only [go_sem, Nat.reduceBEq, Nat.reduceAdd, Nat.reduceSub, Nat.reduceMul, Nat.reduceLeDiff, reduceCtorEq, ↓reduceIte, Int.reduceLT, Int.reduceLE, Int.reduceEq, Int.reduceNe]
        refine s_idx hA1 (by omega) (by omega) ?_
        simp -implicitDefEqProofs only [go_sem, Nat.reduceBEq, Nat.reduceAdd, Nat.reduceSub, Nat.reduceMul, Nat.reduceLeDiff, reduceCtorEq, ↓reduceIte, Int.reduceLT, Int.reduceLE, Int.reduceEq, Int.reduceNe]
        refine s_ld0 (hc2 _ (lk_sub fun g hg => by simp at hg; rcases hg with rfl | rfl <;> simp)) (by simp) (by simp) ?_
        simp -implicitDefEqProofs only [go_sem, Nat.reduceBEq, Nat.reduceAdd, Nat.reduceSub, Nat.reduceMul, Nat.reduceLeDiff, reduceCtorEq, ↓reduceIte, Int.reduceLT, Int.reduceLE, Int.reduceEq, Int.reduceNe]
        refine s_appS (α := Int) (ix := 7) (xs := []) (L := lk []) rfl (Bld.nil gx _ _) (hr2.mono (lk_sub fun g hg => by simp at hg; rcases hg with rfl | rfl <;> simp)) rfl (Mem.le.refl _) rfl (by simp; omega) (by simp; unfold maxLen; omega) ?_
        intro v1 g1 hB1 _
        rw [List.nil_append] at hB1
        obtain ⟨A3, c3, rfl⟩ := hB1.val
        simp -implicitDefEqProofs only [go_sem, Nat.reduceBEq, Nat.reduceAdd, Nat.reduceSub, Nat.reduceMul, Nat.reduceLeDiff, reduceCtorEq, ↓reduceIte, Int.reduceLT, Int.reduceLE, Int.reduceEq, Int.reduceNe]
        intro b5
        refine s_app1S (α := Int) (ix := 8) (c : Int) rfl hB1 cells_one rfl (by omega) (by unfold maxLen; omega) ?_
        intro v2 g2 hB2 _
        rw [← hw] at hB2
        obtain ⟨A4, c4, rfl, hS4⟩ := hB2.slok (L' := lk [g2]) (Mem.le.refl _) (fun b o ⟨x, hx, _⟩ => by cases hx) (by omega)
        simp -implicitDefEqProofs only [go_sem, Nat.reduceBEq, Nat.reduceAdd, Nat.reduceSub, Nat.reduceMul, Nat.reduceLeDiff, reduceCtorEq, ↓reduceIte, Int.reduceLT, Int.reduceLE, Int.reduceEq, Int.reduceNe]
        refine s_join (fun vs Γ' => ∃ (rows' : List (List Int)) (gk gs gt gr gl gx : PH) (X : List (List UInt8)) (Ar : Option Addr) (cr : Nat), Γ' = [gk, gs, gt, gr, gl, ge, gf, gx] ∧ Known gk bk k L ∧ StrM gs bs X ∧ SeenB X (rows'.map (markL L ends)) ∧
          gt t = some (.cells [.int .i64 (k : Int), fv, .map (some bk), .slice Ar rows'.length cr, .slice Ae ends.length ce].toArray 198 (0, 0)) ∧ Bld gr (lk [gl]) 29 (.slice Ar rows'.length cr) rows' ∧ TabL L k ends rows' ∧ rows <+: rows' ∧ markL L ends w ∈ rows'.map (markL L ends)) ?_ ?_
        · simp -implicitDefEqProofs only [S155_2, go_sem, Nat.reduceBEq, Nat.reduceAdd, Nat.reduceSub, Nat.reduceMul, Nat.reduceLeDiff, reduceCtorEq, ↓reduceIte, Int.reduceLT, Int.reduceLE, Int.reduceEq, Int.reduceNe]
          generalize one b5 _ = g5
          refine CallVC.perm (Γm := [gk]) (Γf := [g5, gs, gt, gr, gl, ge, gf, g2]) (learn_mark (Γr := [g5, gs, gt, gr, gl, ge, gf, g2] ++ Γr) ⟨gt, by simp, hgt⟩ (hSe.mono (lk_sub fun g hg => by simp at hg; rcases hg with rfl | rfl <;> simp)) (by omega) hT.eok (hm.mono (lk_r _ _)) hK hk.2 (hS4.mono (lk_sub fun g hg => by simp at hg; subst hg; simp)) hwok (by omega)) (List.Perm.swap _ _ _) (List.Sublist.refl _) ?_
          rintro v Γ' ⟨gk', rfl, hK', rfl⟩
          have hml := hmk w
          have hmem : bitB (markL L ends w) ∈ X ↔ markL L ends w ∈ rows.map (markL L ends) := hSB _
          simp -implicitDefEqProofs only [go_sem, Nat.reduceBEq, Nat.reduceAdd, Nat.reduceSub, Nat.reduceMul, Nat.reduceLeDiff, reduceCtorEq, ↓reduceIte, Int.reduceLT, Int.reduceLE, Int.reduceEq, Int.reduceNe]
          refine s_q trivial (look_str (t := 118) (kt := 9) (by kernel_rfl) (by kernel_rfl) (hX.l (by simp)) (by rw [bitB_len]; omega)) ?_
          rw [show decide (bitB (markL L ends w) ∈ X) = decide (markL L ends w ∈ rows.map (markL L ends)) from decide_eq_decide.2 hmem]
          simp -implicitDefEqProofs only [go_sem, Nat.reduceBEq, Nat.reduceAdd, Nat.reduceSub, Nat.reduceMul, Nat.reduceLeDiff, reduceCtorEq, ↓reduceIte, Int.reduceLT, Int.reduceLE, Int.reduceEq, Int.reduceNe]
          by_cases hin : markL L ends w ∈ rows.map (markL L ends)
          · refine And.intro (fun h => absurd hin h) (fun _ => ?_)
            exact Up.sel [[0], [2], [3], [4], [5], [6], [7], [8]] (by decide) fun _ _ => ⟨rows, _, _, _, _, _, _, X, Ar, cr, rfl, hK', hX, hSB, hgt, hBr, hT, List.prefix_refl _, hin⟩
          · refine And.intro (fun _ => ?_) (fun h => absurd h hin)
            refine s_addT (kt := 9) (ix := 2) (by kernel_rfl) (by kernel_rfl) rfl hX (by rw [bitB_len]; omega) ?_
            intro gs' hX' _
            simp -implicitDefEqProofs only [go_sem, Nat.reduceBEq, Nat.reduceAdd, Nat.reduceSub, Nat.reduceMul, Nat.reduceLeDiff, reduceCtorEq, ↓reduceIte, Int.reduceLT, Int.reduceLE, Int.reduceEq, Int.reduceNe]
            refine s_ld (j := 3) (cells_lk ⟨gt, by simp, hgt⟩) (by simp) (by simp) ?_
            simp -implicitDefEqProofs only [go_sem, Nat.reduceBEq, Nat.reduceAdd, Nat.reduceSub, Nat.reduceMul, Nat.reduceLeDiff, reduceCtorEq, ↓reduceIte, Int.reduceLT, Int.reduceLE, Int.reduceEq, Int.reduceNe]
            intro b6
            refine s_app1 (ix := 5) (L' := lk [gl, g2]) (x := w) rfl hBr (lk_sub (by simp)) (mk_list (hS4.mono (lk_sub (by simp)))) cells_one rfl (by omega) (by unfold maxLen; omega) ?_
            intro vr' gr' hBr' _
            obtain ⟨Ar', cr', rfl⟩ := hBr'.val
            simp -implicitDefEqProofs only [go_sem, Nat.reduceBEq, Nat.reduceAdd, Nat.reduceSub, Nat.reduceMul, Nat.reduceLeDiff, reduceCtorEq, ↓reduceIte, Int.reduceLT, Int.reduceLE, Int.reduceEq, Int.reduceNe]
            refine s_storeF (ix := 4) (o := 3) (n := 1) rfl hgt (by simp) ?_
            simp -implicitDefEqProofs only [go_sem, Nat.reduceBEq, Nat.reduceAdd, Nat.reduceSub, Nat.reduceMul, Nat.reduceLeDiff, reduceCtorEq, ↓reduceIte, Int.reduceLT, Int.reduceLE, Int.reduceEq, Int.reduceNe]
            refine Up.sel [[1], [3], [4], [5], [6, 9], [7], [8], []] (by decide) fun _ hm2 => ⟨rows ++ [w], _, _, _, _, _, _, _, Ar', cr', rfl, hK', hX', ?_, upd_self _ _ _, hBr'.mono (Mem.le.refl _) (hm2 [6, 9] (by simp)), ?_, List.prefix_append _ _, by simp⟩
            · rw [List.map_append]
              exact hSB.add _
            · rw [hw] at hin ⊢
              exact hT.add hui hc hin
        · rintro vs Γ' ⟨rows', gk, gs, gt, gr, gl, gx, X, Ar, cr, rfl, hK, hX, hSB, hgt, hBr, hT', hpre', hin⟩
          have hb' := hT'.bound hN
          simp -implicitDefEqProofs only [S155_3, go_sem, Nat.reduceBEq, Nat.reduceAdd, Nat.reduceSub, Nat.reduceMul, Nat.reduceLeDiff, reduceCtorEq, ↓reduceIte, Int.reduceLT, Int.reduceLE, Int.reduceEq, Int.reduceNe]
          refine s_ld (j := 3) (cells_lk ⟨gt, by simp, hgt⟩) (by simp) (by simp) ?_
          simp -implicitDefEqProofs only [go_sem, Nat.reduceBEq, Nat.reduceAdd, Nat.reduceSub, Nat.reduceMul, Nat.reduceLeDiff, reduceCtorEq, ↓reduceIte, Int.reduceLT, Int.reduceLE, Int.reduceEq, Int.reduceNe]
          refine ⟨fun h => by omega, fun _ => ?_⟩
          simp (disch := omega) only [wrap_id]
          have hsub : ∀ m, m ∈ rows.map (markL L ends) → m ∈ rows'.map (markL L ends) := fun m hm2 => by
            obtain ⟨v, hv, rfl⟩ := List.mem_map.1 hm2
            exact List.mem_map.2 ⟨v, hpre'.subset hv, rfl⟩
          have hget : ∀ (j : Nat) (v : List Int), j < rows.length → rows'[j]? = some v → rows[j]? = some v := fun j v hj hv => by
            obtain ⟨r, hr⟩ := hpre'
            rw [← hr, List.getElem?_append_left hj] at hv
            exact hv
          refine Up.here ⟨f2 - 1, by omega, Up.here ⟨c + 1, rows', gk, gs, gt, gr, gl, gx, X, Ar, cr, rfl, by omega, rfl, hK, hX, hSB, hgt, hBr, hT', List.IsPrefix.trans hpre hpre', fun j v hj hv c' hc' => hsub _ (hcl j v hj (hget j v (by omega) hv) c' hc'), ?_, fun c' hc' => ?_⟩⟩
          · obtain ⟨r, hr⟩ := hpre'
            rw [← hr, List.getElem?_append_left hi]
            exact hui
          · by_cases e : c' = c
            · subst e; rw [← hw]; exact hin
            · exact hsub _ (hcu c' (by omega))
      · have hc : c = k := by omega
        have hi := (List.getElem?_eq_some_iff.1 hui).1
        rw [hc] at hcu
        simp (disch := omega) only [wrap_id]
        refine ⟨f - 1, by omega, Up.here ⟨i + 1, rows, gk, gs, gt, gr, gl, gx, X, Ar, cr, rfl, by omega, rfl, hK, hX, hSB, hgt, hBr, hT, hpre, fun j v hj hv c' hc' => ?_⟩⟩
        by_cases e : j = i
        · subst e
          rw [hui] at hv
          cases hv
          exact hcu c' hc'
        · exact hcl j v (by omega) hv c' hc'
    · refine Up.sel [[0], [2], [3], [4], [5], [6]] (by decide) fun _ _ => ?_
      subst hR
      refine ⟨rows, rfl, ⟨_, _, _, _, _, _, Ar, Ae, cr, ce, rfl, hgt, hBr, hBe, hK⟩, hT, hpre, fun u hu c hc => ?_⟩
      obtain ⟨j, hj⟩ := List.getElem?_of_mem hu
      exact hcl j u (by have := (List.getElem?_eq_some_iff.1 hj).1; omega) hj c hc
end Go.Proofs.Ytniobbepliknmaa.V
/- The text of (*parlance/learn.table).guess as a statement (slots: 0 t, 1 t, 3 num, 4 i, 5 w, 6 d, 7 _, 8 w, 9 row, 10 c); no condition. -/
namespace Go.Proofs.Ytniobbepliknmaa.V
open Go
def S156_1 : Stmt :=
  Stmt.seq
  (Stmt.region [SOper.mk (some 18) none (SOp.ibin BinOp.lss (Operand.tmp 17) (Operand.tmp 16))]
    [0, 2, 3, 15, 16, 17, 18])
  (Stmt.seq (Stmt.cond (Operand.tmp 18) Stmt.skip (Stmt.exit 0))
    (Stmt.seq
      (Stmt.block 1
        (Stmt.seq
          (Stmt.region
            [SOper.mk (some 19) none (SOp.mv (Operand.tmp 17)),
              SOper.mk (some 20) none (SOp.idx 1 (Operand.tmp 15) (Operand.tmp 17)),
              SOper.mk (some 21) none (SOp.load false 1 (Operand.tmp 20)),
              SOper.mk (some 4) none (SOp.mv (Operand.tmp 19)), SOper.mk (some 5) none (SOp.mv (Operand.tmp 21))]
            [0, 2, 3, 4, 5, 15, 16, 17])
          (Stmt.region
            [SOper.mk (some 22) none (SOp.mv (Operand.tmp 3)), SOper.mk (some 23) none (SOp.mv (Operand.tmp 0)),
              SOper.mk (some 24) none (SOp.mv (Operand.tmp 5)),
              SOper.mk (some 25) none (SOp.call (Operand.func 191) [Operand.tmp 23, Operand.tmp 24]),
              SOper.mk (some 26) none (SOp.mv (Operand.tmp 4)),
              SOper.mk none none (SOp.a (Qk.upd 251) [Operand.tmp 22, Operand.tmp 25, Operand.tmp 26])]
            [0, 2, 3, 15, 16, 17])))
      (Stmt.region
        [SOper.mk (some 27) none (SOp.ibin BinOp.add (Operand.tmp 17) (Operand.const (Value.int IntKind.i64 1))),
          SOper.mk (some 17) none (SOp.mv (Operand.tmp 27))]
        [0, 2, 3, 15, 16, 17])))
def S156_2 : Stmt :=
  Stmt.seq
  (Stmt.region [SOper.mk (some 43) none (SOp.ibin BinOp.lss (Operand.tmp 42) (Operand.tmp 41))]
    [0, 2, 3, 6, 8, 9, 32, 33, 34, 41, 42, 43])
  (Stmt.seq (Stmt.cond (Operand.tmp 43) Stmt.skip (Stmt.exit 4))
    (Stmt.seq
      (Stmt.block 5
        (Stmt.seq
          (Stmt.region
            [SOper.mk (some 44) none (SOp.mv (Operand.tmp 42)), SOper.mk (some 10) none (SOp.mv (Operand.tmp 44))]
            [0, 2, 3, 6, 8, 9, 10, 32, 33, 34, 41, 42])
          (Stmt.region
            [SOper.mk (some 45) none (SOp.mv (Operand.tmp 9)), SOper.mk (some 46) none (SOp.mv (Operand.tmp 3)),
              SOper.mk (some 47) none (SOp.mv (Operand.tmp 0)), SOper.mk (some 48) none (SOp.mv (Operand.tmp 8)),
              SOper.mk (some 49) none
                (SOp.append 29 3 1 8 (Value.int IntKind.i64 0) (Operand.const (Value.slice none 0 0)) (Operand.tmp 48)),
              SOper.mk (some 50) none (SOp.mv (Operand.tmp 10)),
              SOper.mk (some 51) none (SOp.buildS 3 1 [Value.int IntKind.i64 0] [(0, 1, Operand.tmp 50)]),
              SOper.mk (some 52) none (SOp.append 29 3 1 8 (Value.int IntKind.i64 0) (Operand.tmp 49) (Operand.tmp 51)),
              SOper.mk (some 53) none (SOp.call (Operand.func 191) [Operand.tmp 47, Operand.tmp 52]),
              SOper.mk (some 54) none (SOp.q (Qk.look 251 false) [Operand.tmp 46, Operand.tmp 53]),
              SOper.mk (some 55) none (SOp.buildS 3 1 [Value.int IntKind.i64 0] [(0, 1, Operand.tmp 54)]),
              SOper.mk (some 56) none (SOp.append 29 3 1 8 (Value.int IntKind.i64 0) (Operand.tmp 45) (Operand.tmp 55)),
              SOper.mk (some 9) none (SOp.mv (Operand.tmp 56))]
            [0, 2, 3, 6, 8, 9, 32, 33, 34, 41, 42])))
      (Stmt.region
        [SOper.mk (some 57) none (SOp.ibin BinOp.add (Operand.tmp 42) (Operand.const (Value.int IntKind.i64 1))),
          SOper.mk (some 42) none (SOp.mv (Operand.tmp 57))]
        [0, 2, 3, 6, 8, 9, 32, 33, 34, 41, 42])))
def S156_3 : Stmt :=
  Stmt.block 3
  (Stmt.seq
    (Stmt.region
      [SOper.mk (some 36) none (SOp.idx 1 (Operand.tmp 32) (Operand.tmp 34)),
        SOper.mk (some 37) none (SOp.load false 1 (Operand.tmp 36)), SOper.mk (some 8) none (SOp.mv (Operand.tmp 37))]
      [0, 2, 3, 6, 8, 32, 33, 34])
    (Stmt.seq
      (Stmt.region [SOper.mk (some 9) none (SOp.mv (Operand.const (Value.slice none 0 0)))]
        [0, 2, 3, 6, 8, 9, 32, 33, 34])
      (Stmt.seq
        (Stmt.seq
          (Stmt.region
            [SOper.mk (some 38) none (SOp.mv (Operand.tmp 0)), SOper.mk (some 39) none (SOp.nilCheck (Operand.tmp 38)),
              SOper.mk (some 40) none (SOp.fld 0 (Operand.tmp 39)),
              SOper.mk (some 41) none (SOp.load false 1 (Operand.tmp 40)),
              SOper.mk (some 42) none (SOp.mv (Operand.const (Value.int IntKind.i64 0)))]
            [0, 2, 3, 6, 8, 9, 32, 33, 34, 41, 42])
          (Stmt.block 4 (Stmt.loop S156_2 [9, 42] [0, 2, 3, 6, 8, 32, 33, 34, 41])))
        (Stmt.seq
          (Stmt.region
            [SOper.mk (some 58) none (SOp.fld 2 (Operand.tmp 6)),
              SOper.mk (some 59) none (SOp.load false 1 (Operand.tmp 58)),
              SOper.mk (some 60) none (SOp.mv (Operand.tmp 9)),
              SOper.mk (some 61) none (SOp.buildS 29 1 [Value.slice none 0 0] [(0, 1, Operand.tmp 60)]),
              SOper.mk (some 62) none (SOp.append 65 29 1 24 (Value.slice none 0 0) (Operand.tmp 59) (Operand.tmp 61)),
              SOper.mk (some 63) none (SOp.fld 2 (Operand.tmp 6)),
              SOper.mk none none (SOp.store 1 (Operand.tmp 63) (Operand.tmp 62))]
            [0, 2, 3, 6, 8, 32, 33, 34])
          (Stmt.seq
            (Stmt.region
              [SOper.mk (some 64) none (SOp.fld 1 (Operand.tmp 6)),
                SOper.mk (some 65) none (SOp.load false 1 (Operand.tmp 64)),
                SOper.mk (some 66) none
                  (SOp.buildS 3 1 [Value.int IntKind.i64 0] [(0, 1, Operand.const (Value.int IntKind.i64 (-1)))]),
                SOper.mk (some 67) none
                  (SOp.append 29 3 1 8 (Value.int IntKind.i64 0) (Operand.tmp 65) (Operand.tmp 66)),
                SOper.mk (some 68) none (SOp.fld 1 (Operand.tmp 6)),
                SOper.mk none none (SOp.store 1 (Operand.tmp 68) (Operand.tmp 67))]
              [0, 2, 3, 6, 8, 32, 33, 34])
            (Stmt.seq
              (Stmt.region
                [SOper.mk (some 69) none (SOp.mv (Operand.tmp 0)), SOper.mk (some 70) none (SOp.mv (Operand.tmp 8)),
                  SOper.mk (some 71) none (SOp.call (Operand.func 159) [Operand.tmp 69, Operand.tmp 70])]
                [0, 2, 3, 6, 32, 33, 34, 71])
              (Stmt.cond (Operand.tmp 71)
                (Stmt.region
                  [SOper.mk (some 72) none (SOp.fld 1 (Operand.tmp 6)),
                    SOper.mk (some 73) none (SOp.load false 1 (Operand.tmp 72)),
                    SOper.mk (some 74) none (SOp.fld 1 (Operand.tmp 6)),
                    SOper.mk (some 75) none (SOp.load false 1 (Operand.tmp 74)),
                    SOper.mk (some 76) none (SOp.len false (Operand.tmp 75)),
                    SOper.mk (some 77) none
                      (SOp.ibin BinOp.sub (Operand.tmp 76) (Operand.const (Value.int IntKind.i64 1))),
                    SOper.mk (some 78) none (SOp.idx 1 (Operand.tmp 73) (Operand.tmp 77)),
                    SOper.mk none none (SOp.store 1 (Operand.tmp 78) (Operand.const (Value.int IntKind.i64 0)))]
                  [0, 2, 3, 6, 32, 33, 34])
                Stmt.skip)))))))
def S156_4 : Stmt :=
  Stmt.region
  [SOper.mk (some 79) none (SOp.ibin BinOp.add (Operand.tmp 34) (Operand.const (Value.int IntKind.i64 1))),
    SOper.mk (some 34) none (SOp.mv (Operand.tmp 79))]
  [0, 2, 3, 6, 32, 33, 34]
def S156_5 : Stmt :=
  Stmt.seq
  (Stmt.region [SOper.mk (some 35) none (SOp.ibin BinOp.lss (Operand.tmp 34) (Operand.tmp 33))]
    [0, 2, 3, 6, 32, 33, 34, 35])
  (Stmt.seq (Stmt.cond (Operand.tmp 35) Stmt.skip (Stmt.exit 2)) (Stmt.join S156_3 S156_4 [6] [0, 2, 3, 32, 33, 34]))
def S156_0 : Stmt :=
  Stmt.seq
  (Stmt.region
    [SOper.mk (some 2) none
        (SOp.alloc true 67
          (Value.agg (Array.mk [Value.int IntKind.i64 0, Value.slice none 0 0, Value.slice none 0 0])))]
    [0, 2])
  (Stmt.seq
    (Stmt.region [SOper.mk (some 11) none (SOp.n (Qk.mkmap 251) []), SOper.mk (some 3) none (SOp.mv (Operand.tmp 11))]
      [0, 2, 3])
    (Stmt.seq
      (Stmt.seq
        (Stmt.region
          [SOper.mk (some 12) none (SOp.mv (Operand.tmp 0)), SOper.mk (some 13) none (SOp.nilCheck (Operand.tmp 12)),
            SOper.mk (some 14) none (SOp.fld 3 (Operand.tmp 13)),
            SOper.mk (some 15) none (SOp.load false 1 (Operand.tmp 14)),
            SOper.mk (some 16) none (SOp.len false (Operand.tmp 15)),
            SOper.mk (some 17) none (SOp.mv (Operand.const (Value.int IntKind.i64 0)))]
          [0, 2, 3, 15, 16, 17])
        (Stmt.block 0 (Stmt.loop S156_1 [17] [0, 2, 3, 15, 16])))
      (Stmt.seq
        (Stmt.region
          [SOper.mk (some 28) none
              (SOp.build 67 [Value.int IntKind.i64 0, Value.slice none 0 0, Value.slice none 0 0] []),
            SOper.mk (some 6) none
              (SOp.alloc true 67
                (Value.agg (Array.mk [Value.int IntKind.i64 0, Value.slice none 0 0, Value.slice none 0 0]))),
            SOper.mk none none (SOp.store 3 (Operand.tmp 6) (Operand.tmp 28))]
          [0, 2, 3, 6])
        (Stmt.seq
          (Stmt.seq
            (Stmt.region
              [SOper.mk (some 29) none (SOp.mv (Operand.tmp 0)),
                SOper.mk (some 30) none (SOp.nilCheck (Operand.tmp 29)),
                SOper.mk (some 31) none (SOp.fld 3 (Operand.tmp 30)),
                SOper.mk (some 32) none (SOp.load false 1 (Operand.tmp 31)),
                SOper.mk (some 33) none (SOp.len false (Operand.tmp 32)),
                SOper.mk (some 34) none (SOp.mv (Operand.const (Value.int IntKind.i64 0)))]
              [0, 2, 3, 6, 32, 33, 34])
            (Stmt.block 2 (Stmt.loop S156_5 [6, 34] [0, 2, 3, 32, 33])))
          (Stmt.seq
            (Stmt.region
              [SOper.mk (some 80) none (SOp.load true 3 (Operand.tmp 6)),
                SOper.mk none none (SOp.store 3 (Operand.tmp 2) (Operand.tmp 80))]
              [2])
            Stmt.ret)))))
def S156 : FnS := ⟨81, [(2, some (true, 3))], S156_0⟩
theorem tr156 : trFn Try.prog 156 [2, 6] [[0, 2], [0, 2, 3], [0, 2, 3, 15, 16, 17], [17], [0, 2, 3, 15, 16], [0, 2, 3, 15, 16, 17, 18], [0, 2, 3, 4, 5, 15, 16, 17], [0, 2, 3, 15, 16, 17], [0, 2, 3, 15, 16, 17], [0, 2, 3, 6], [0, 2, 3, 6, 32, 33, 34], [6, 34], [0, 2, 3, 32, 33], [0, 2, 3, 6, 32, 33, 34, 35], [6], [0, 2, 3, 32, 33, 34], [0, 2, 3, 6, 8, 32, 33, 34], [0, 2, 3, 6, 8, 9, 32, 33, 34], [0, 2, 3, 6, 8, 9, 32, 33, 34, 41, 42], [9, 42], [0, 2, 3, 6, 8, 32, 33, 34, 41], [0, 2, 3, 6, 8, 9, 32, 33, 34, 41, 42, 43], [0, 2, 3, 6, 8, 9, 10, 32, 33, 34, 41, 42], [0, 2, 3, 6, 8, 9, 32, 33, 34, 41, 42], [0, 2, 3, 6, 8, 9, 32, 33, 34, 41, 42], [0, 2, 3, 6, 8, 32, 33, 34], [0, 2, 3, 6, 8, 32, 33, 34], [0, 2, 3, 6, 32, 33, 34, 71], [0, 2, 3, 6, 32, 33, 34], [0, 2, 3, 6, 32, 33, 34], [2]] = some S156 := by kernel_rfl
end Go.Proofs.Ytniobbepliknmaa.V
/- learn.table.guess walked; no condition. -/
namespace Go.Proofs.Ytniobbepliknmaa.V
open Go
set_option linter.unusedVariables false
set_option linter.unusedSimpArgs false
attribute [local go_sem] e_seq e_region e_quiet e_join e_loop e_cond e_block e_exit e_ret e_skip e_fin e_kseq e_snrm e_sret e_sex e_bnrm e_bret e_bex e_rnrm e_rret e_res e_condC e_nil e_g e_mv g_mv e_pick g_pick pickC_eq e_ibin g_ibin ibinC_eq e_sbin g_sbin e_beq g_beq beqC_eq e_nilq g_nilq nilqC_sl nilqC_pt nilqC_mp e_un g_un unC_not unC_neg e_conv g_conv convC_eq e_fld g_fld fldC_ref fldC_ptr e_nilCheck g_nilCheck nilCheckC_ref nilCheckC_ptr nilCheckC_fun e_field g_field fieldC_eq e_len g_len lenC_sl lenC_str e_extract g_extract extractC_eq e_mkFunc e_build g_build e_idiv g_idiv idivC_eq e_ishift g_ishift ishiftC_eq e_idx g_idx e_idxA g_idxA e_load g_load e_loadB g_loadB atB_ref atB_v g_mkFunc loadC_ref loadC_ptr loadB_eq e_slc g_slc e_box boxC_loc boxC_esc e_alloc allocC_loc allocC_esc e_buildS e_store storeC_ref storeC_ptr storeB_eq e_append e_appz e_mk mkC_eq e_call callC_eq e_fn g_fn fnC_eq fnV_min' fnV_max' fnV_rune' e_q g_q e_a e_n g_call g_box g_alloc g_buildS g_store g_append g_mk g_a g_n g_dead e_dead e_callK e_drawn e_tree e_finJ e_tk e_tfin e_tno e_nbt_q e_nbt_qn e_nbt_a e_nbt_an e_nbt_fin e_drawnB e_bxb_nil e_bxb e_stB_none e_stB_some boxSt_store bs_mv bs_pick bs_ibin bs_idiv bs_ishift bs_sbin bs_beq bs_nilq bs_un bs_conv bs_box bs_alloc bs_build bs_buildS bs_load bs_fld bs_nilCheck bs_idx bs_idxA bs_field bs_slc bs_len bs_append bs_appz bs_mk bs_call bs_extract bs_mkFunc bs_fn bs_q bs_a bs_n bs_loadB bs_dead isBox_box e_early_nil e_early_t e_early_f e_nob_nil e_nob_none e_nob_some isBox_dead isBox_v isBox_ref e_dnil e_dk e_ek e_finB vcOps_vc1 e_dcons e_tq e_ekt e_tearly e_talt e_dearly look_nil look_c proj_nil proj_c looks_nil looks_c zip_nil zip_c val_tmp val_const val_func slv_v slv_box slv_ref slot_tmp slot_const slot_func slotL_v slotL_box slotL_ref put_some put_none updBox_c boxSet_box gd_eq slotVals_nil slotVals_c slotVals_b boxV_box boxOn_box slotsOn_nil slotsOn_c slotsOn_b resV_one resV_two vals_nil vals_c allOn_nil allOn_c partOn_nil partOn_c partVals_nil partVals_c fits_nil fits_c fillL_nil fillL_c mkv_one mkv_agg cellsV_agg cellsV_int cellsV_bool cellsV_slice cellsV_string cellsV_pointer cellsV_func cellsV_nilf cellsV_map one'_nil one'_c oc_int oc_bool oc_slice oc_string oc_pointer oc_func oc_nilf oc_map setC_eq iv_add iv_sub iv_mul iv_eql iv_neq iv_lss iv_leq iv_gtr iv_geq iok_add iok_sub iok_mul iok_eql iok_neq iok_lss iok_leq iok_gtr iok_geq pickV_bool args0_nil args0_c bnd_none bnd_some imp_bt imp_bf imp_ebt imp_ebf imp_eb1 imp_np imp_pp beq_tt beq_tf beq_ft beq_ff cond_or cond_and e_round e_meet Int.le_refl Int.toNat_zero decide_true decide_false Bool.or_false Bool.false_or Bool.true_or Bool.or_true Bool.and_false Bool.false_and Bool.bne_false Bool.bne_true beq_iff_eq Int.cast_ofNat_Int not_false_eq_true not_true_eq_false false_and and_false false_implies true_implies true_and and_true Bool.true_and Bool.and_true Bool.not_true Bool.not_false forall_const implies_true List.take_zero List.drop_zero List.take_succ_cons List.drop_succ_cons List.take_nil List.drop_nil List.length_cons List.length_nil List.nil_append List.append_nil List.cons_append Int.toNat_natCast decide_eq_true_eq decide_eq_false_iff_not cond_true cond_false and_self List.getElem?_cons_zero List.getElem?_cons_succ List.set_cons_zero List.set_cons_succ Option.some.injEq exists_eq_left' Nat.zero_add Nat.add_zero Nat.mul_one imp_self true_or or_true or_false false_or Bool.or_eq_true Bool.or_eq_false_iff Bool.and_eq_true Bool.and_eq_false_iff Bool.not_eq_true' Bool.not_eq_false'

theorem zipIdxK_snoc {α : Type} (keys : List α) (x : α) : (keys ++ [x]).zipIdx = keys.zipIdx ++ [(x, keys.length)] := by simp [List.zipIdx_append]
theorem zipIdxK_keys {α : Type} (keys : List α) : keys.zipIdx.map (·.1) = keys := by simp
theorem mgetK {α : Type} [DecidableEq α] {keys : List α} (hn : keys.Nodup) {b : Nat} {x : α} (hb : keys[b]? = some x) : mget keys.zipIdx x = some b := by
  have h1 : keys.zipIdx[b]? = some (x, b) := by rw [List.getElem?_zipIdx, hb]; simp
  exact mget_at (by rw [zipIdxK_keys]; exact hn) h1
def keyM (L : List Int → Bool) (ends : List (List Int)) (w : List Int) : List UInt8 := bitB (markL L ends w)
theorem TabL.keys {L : List Int → Bool} {k : Nat} {ends rows : List (List Int)} (h : TabL L k ends rows) : (rows.map (keyM L ends)).Nodup := by
  rw [List.Nodup, List.pairwise_map, List.pairwise_iff_getElem]
  intro i j hi hj hij e
  have := h.dif i j _ _ (List.getElem?_eq_getElem hi) (List.getElem?_eq_getElem hj) (bitB_inj e)
  omega
theorem learn_guess {Γr : Ctx} {t bk k : Nat} {fv : Value} {L : List Int → Bool} (hm : MemOk Γr fv k L) (hk : 1 ≤ k ∧ k ≤ 16) {ends rows : List (List Int)} (hel : ends.length ≤ 900) (hT : TabL L k ends rows) (hC : ClosL L k ends rows) (hb : rows.length ≤ 200) {Γ0 : Ctx} (hW : TabW t bk k fv L ends rows Γ0) :
    Ret Try.prog 156 [.pointer (some ⟨t, 0, none⟩)] Γr Γ0 (fun v Γ => ∃ Γ1 g m A c B e, Γ = g :: Γ1 ∧ TabW t bk k fv L ends rows Γ1 ∧ v = .agg #[.int .i64 0, .slice A m.ac.length c, .slice B m.nx.length e] ∧ SlOk (lk [g]) A c m.ac ∧ SlOk (lk [g]) B e m.nx ∧ GuessL L k ends rows m) := by
  generalize hR : (fun (v : Value) (Γ : Ctx) => ∃ Γ1 g m A c B e, _) = R
  refine ret_of_vc tr156 (Nat.le_of_ble_eq_true rfl) ?_
  obtain ⟨gk, gt, gr, gl, ge, gf, Ar, Ae, cr, ce, rfl, hgt, hBr, hBe, hK⟩ := hW
  have hmk : ∀ w, (keyM L ends w).length ≤ 900 := fun w => by rw [keyM, bitB_len, markL_len]; omega
  obtain ⟨Ae1, ce1, ee, hSe⟩ := hBe.slok (L' := lk [ge, gf]) (lk_sub (by simp)) (lk_sub (by simp)) (by omega)
  simp only [Value.slice.injEq, true_and] at ee
  obtain ⟨rfl, rfl⟩ := ee
  obtain ⟨Ar1, cr1, er, hSr⟩ := hBr.slok (L' := lk [gr, gl]) (lk_sub (by simp)) (lk_sub (by simp)) (by omega)
  simp only [Value.slice.injEq, true_and] at er
  obtain ⟨rfl, rfl⟩ := er
  have hnd := hT.keys
  simp -implicitDefEqProofs only [S156, S156_0, go_sem, Nat.reduceBEq, Nat.reduceAdd, Nat.reduceSub, Nat.reduceMul, Nat.reduceLeDiff, reduceCtorEq, ↓reduceIte, Int.reduceLT, Int.reduceLE, Int.reduceEq, Int.reduceNe]
  intro b2
  refine s_mkmap fun bs => ?_
  simp -implicitDefEqProofs only [go_sem, Nat.reduceBEq, Nat.reduceAdd, Nat.reduceSub, Nat.reduceMul, Nat.reduceLeDiff, reduceCtorEq, ↓reduceIte, Int.reduceLT, Int.reduceLE, Int.reduceEq, Int.reduceNe]
  refine s_ld (j := 3) (cells_lk ⟨gt, by simp, hgt⟩) (by simp) (by simp) ?_
  simp -implicitDefEqProofs only [go_sem, Nat.reduceBEq, Nat.reduceAdd, Nat.reduceSub, Nat.reduceMul, Nat.reduceLeDiff, reduceCtorEq, ↓reduceIte, Int.reduceLT, Int.reduceLE, Int.reduceEq, Int.reduceNe]
  refine s_loop (fun f vs Γ => ∃ (i : Nat) (gk gs : PH), vs = [.v true (.int .i64 i)] ∧ i + f = rows.length ∧ Γ = [gk, gs, gt, gr, gl, ge, gf] ∧ Known gk bk k L ∧ MapM gs bs strB natV (fun l => l.length ≤ 100000) ((rows.take i).map (keyM L ends)).zipIdx) rows.length
    (Up.sel [[1], [0], [2], [3], [4], [5], [6]] (by decide) fun _ _ => ⟨0, _, _, rfl, by omega, rfl, hK, MapM.new _ _ _ _⟩) ?_
  clear hK
  rintro f vs Γ ⟨i, gk, gs, rfl, hif, rfl, hK, hM⟩
  simp -implicitDefEqProofs only [S156_1, go_sem, Nat.reduceBEq, Nat.reduceAdd, Nat.reduceSub, Nat.reduceMul, Nat.reduceLeDiff, reduceCtorEq, ↓reduceIte, Int.reduceLT, Int.reduceLE, Int.reduceEq, Int.reduceNe]
  refine ⟨fun hlt => ?_, fun hge => ?_⟩
  · have hi : i < rows.length := by omega
    obtain ⟨b1, o1, hA1, A2, c2, hr2, hc2⟩ := hSr.list hi
    have hrok := hT.rok i _ (List.getElem?_eq_getElem hi)
    have htk : rows.take (i + 1) = rows.take i ++ [rows[i]] := List.take_succ_eq_append_getElem hi
    refine s_idx hA1 (by omega) (by omega) ?_
    simp -implicitDefEqProofs only [go_sem, Nat.reduceBEq, Nat.reduceAdd, Nat.reduceSub, Nat.reduceMul, Nat.reduceLeDiff, reduceCtorEq, ↓reduceIte, Int.reduceLT, Int.reduceLE, Int.reduceEq, Int.reduceNe]
    refine s_ld0 (hc2 _ (lk_sub fun g hg => by simp at hg; rcases hg with rfl | rfl <;> simp)) (by simp) (by simp) ?_
    simp -implicitDefEqProofs only [go_sem, Nat.reduceBEq, Nat.reduceAdd, Nat.reduceSub, Nat.reduceMul, Nat.reduceLeDiff, reduceCtorEq, ↓reduceIte, Int.reduceLT, Int.reduceLE, Int.reduceEq, Int.reduceNe]
    refine CallVC.head (learn_mark (Γr := [gs, gt, gr, gl, ge, gf] ++ Γr) ⟨gt, by simp, hgt⟩ (hSe.mono (lk_sub fun g hg => by simp at hg; rcases hg with rfl | rfl <;> simp)) (by omega) hT.eok (hm.mono (lk_r _ _)) hK hk.2 (hr2.mono (lk_sub fun g hg => by simp at hg; rcases hg with rfl | rfl <;> simp)) hrok.1 (by omega)) (List.Sublist.refl _) ?_
    rintro v Γ' ⟨gk', rfl, hK', rfl⟩
    have hno : keyM L ends rows[i] ∉ (rows.take i).map (keyM L ends) := fun q => by
      obtain ⟨u, hu, e⟩ := List.mem_map.1 q
      obtain ⟨j, hj⟩ := List.getElem?_of_mem hu
      have hjl := (List.getElem?_eq_some_iff.1 hj).1
      simp only [List.length_take] at hjl
      rw [List.getElem?_take, if_pos (by omega)] at hj
      have := hT.dif j i _ _ hj (List.getElem?_eq_getElem hi) (bitB_inj e)
      omega
    simp -implicitDefEqProofs only [go_sem, Nat.reduceBEq, Nat.reduceAdd, Nat.reduceSub, Nat.reduceMul, Nat.reduceLeDiff, reduceCtorEq, ↓reduceIte, Int.reduceLT, Int.reduceLE, Int.reduceEq, Int.reduceNe]
    refine s_upd (kt_strL (k := 9) (by kernel_rfl)) (et := 3) (ix := 1) (eV := natV) (by kernel_rfl) rfl hM i (by show (bitB (markL L ends rows[i])).length ≤ 100000; have := hmk rows[i]; simp only [keyM] at this; omega) ?_
    intro gs' hM' _
    simp -implicitDefEqProofs only [go_sem, Nat.reduceBEq, Nat.reduceAdd, Nat.reduceSub, Nat.reduceMul, Nat.reduceLeDiff, reduceCtorEq, ↓reduceIte, Int.reduceLT, Int.reduceLE, Int.reduceEq, Int.reduceNe]
    simp (disch := omega) only [wrap_id]
    refine ⟨f - 1, by omega, Up.here ⟨i + 1, gk', gs', rfl, by omega, rfl, hK', ?_⟩⟩
    rw [mput, if_neg (by rw [zipIdxK_keys]; exact hno)] at hM'
    have hl : ((rows.take i).map (keyM L ends)).length = i := by simp; omega
    rw [htk, List.map_append]
    have hz := zipIdxK_snoc ((rows.take i).map (keyM L ends)) (keyM L ends rows[i])
    rw [hl] at hz
    simp only [List.map_cons, List.map_nil]
    rw [hz]
    exact hM'
  · have hi : i = rows.length := by omega
    subst hi
    rw [List.take_length] at hM
    intro b3
    refine s_ld (j := 3) (cells_lk ⟨gt, by simp, hgt⟩) (by simp) (by simp) ?_
    simp -implicitDefEqProofs only [go_sem, Nat.reduceBEq, Nat.reduceAdd, Nat.reduceSub, Nat.reduceMul, Nat.reduceLeDiff, reduceCtorEq, ↓reduceIte, Int.reduceLT, Int.reduceLE, Int.reduceEq, Int.reduceNe]
    refine s_loop (fun f vs Γ => ∃ (i bb : Nat) (nx : List (List Int)) (va vn : Value) (gk ga go gd gx : PH), vs = [.box bb 67 [.int .i64 0, va, vn], .v true (.int .i64 i)] ∧ i + f = rows.length ∧ Γ = [gk, gs, gt, gr, gl, ge, gf, ga, go, gd, gx] ∧ Known gk bk k L ∧
        Bld ga (lk []) 3 va ((rows.take i).map fun w => if L w then (0 : Int) else -1) ∧ Bld go (lk [gd]) 29 vn nx ∧ nx.length = i ∧
        ∀ (j : Nat) (u r : List Int), rows[j]? = some u → nx[j]? = some r → r.length = k ∧ ∀ (c : Nat) (x : Int), r[c]? = some x → ∃ (j : Nat) (v : List Int), x = j ∧ rows[j]? = some v ∧ markL L ends v = markL L ends (u ++ [(c : Int)])) rows.length
      (Up.sel [[0], [1], [2], [3], [4], [5], [6], [], [], [], []] (by decide) fun _ _ => ⟨0, b3, [], _, _, _, _, _, _, _, rfl, by omega, rfl, hK, by simpa using Bld.nil _ _ _, Bld.nil _ _ _, rfl, by simp⟩) ?_
    clear hK
    rintro f vs Γ ⟨i, bb, nx, va, vn, gk, ga, go, gd, gx, rfl, hif, rfl, hK, hBa, hBo, hnl, hnx⟩
    obtain ⟨Aa, ca, rfl⟩ := hBa.val
    obtain ⟨Ao, co, rfl⟩ := hBo.val
    simp -implicitDefEqProofs only [S156_5, go_sem, Nat.reduceBEq, Nat.reduceAdd, Nat.reduceSub, Nat.reduceMul, Nat.reduceLeDiff, reduceCtorEq, ↓reduceIte, Int.reduceLT, Int.reduceLE, Int.reduceEq, Int.reduceNe]
    refine ⟨fun hlt => ?_, fun hge => ?_⟩
    · have hi : i < rows.length := by omega
      obtain ⟨u, hu⟩ : ∃ u, u = rows[i] := ⟨_, rfl⟩
      have hui : rows[i]? = some u := by rw [hu]; exact List.getElem?_eq_getElem hi
      have hrok := hT.rok i u hui
      obtain ⟨b1, o1, hA1, A2, c2, hr2, hc2⟩ := hSr.list hi
      rw [← hu] at hr2 hc2
      have htk : rows.take (i + 1) = rows.take i ++ [u] := by rw [hu]; exact List.take_succ_eq_append_getElem hi
      refine s_split ?_
      simp -implicitDefEqProofs only [S156_3, S156_4, go_sem, Nat.reduceBEq, Nat.reduceAdd, Nat.reduceSub, Nat.reduceMul, Nat.reduceLeDiff, reduceCtorEq, ↓reduceIte, Int.reduceLT, Int.reduceLE, Int.reduceEq, Int.reduceNe]
      refine s_idx hA1 (by omega) (by omega) ?_
      simp -implicitDefEqProofs only [go_sem, Nat.reduceBEq, Nat.reduceAdd, Nat.reduceSub, Nat.reduceMul, Nat.reduceLeDiff, reduceCtorEq, ↓reduceIte, Int.reduceLT, Int.reduceLE, Int.reduceEq, Int.reduceNe]
      refine s_ld0 (hc2 _ (lk_sub fun g hg => by simp at hg; rcases hg with rfl | rfl <;> simp)) (by simp) (by simp) ?_
      simp -implicitDefEqProofs only [go_sem, Nat.reduceBEq, Nat.reduceAdd, Nat.reduceSub, Nat.reduceMul, Nat.reduceLeDiff, reduceCtorEq, ↓reduceIte, Int.reduceLT, Int.reduceLE, Int.reduceEq, Int.reduceNe]
      refine s_ld0 (cells_lk ⟨gt, by simp, hgt⟩) (by simp) (by simp) ?_
      simp -implicitDefEqProofs only [go_sem, Nat.reduceBEq, Nat.reduceAdd, Nat.reduceSub, Nat.reduceMul, Nat.reduceLeDiff, reduceCtorEq, ↓reduceIte, Int.reduceLT, Int.reduceLE, Int.reduceEq, Int.reduceNe]
      refine s_loop (fun f vs Γ => ∃ (c : Nat) (row : List Int) (vr : Value) (gk gy gx : PH), vs = [.v true vr, .v true (.int .i64 c)] ∧ c + f = k ∧ Γ = [gk, gs, gt, gr, gl, ge, gf, ga, go, gd, gx, gy] ∧ Known gk bk k L ∧ Bld gy (lk []) 3 vr row ∧ row.length = c ∧
          ∀ (c : Nat) (x : Int), row[c]? = some x → ∃ (j : Nat) (v : List Int), x = j ∧ rows[j]? = some v ∧ markL L ends v = markL L ends (u ++ [(c : Int)])) k
        (Up.sel [[0], [1], [2], [3], [4], [5], [6], [7], [8], [9], [10], []] (by decide) fun _ _ => ⟨0, [], _, _, _, _, rfl, by omega, rfl, hK, Bld.nil _ _ _, rfl, by simp⟩) ?_
      clear hK
      rintro f2 vs Γ ⟨c, row, vr, gk, gy, gx, rfl, hcf, rfl, hK, hBy, hrl, hrow⟩
      obtain ⟨Ay, cy, rfl⟩ := hBy.val
      simp -implicitDefEqProofs only [S156_2, go_sem, Nat.reduceBEq, Nat.reduceAdd, Nat.reduceSub, Nat.reduceMul, Nat.reduceLeDiff, reduceCtorEq, ↓reduceIte, Int.reduceLT, Int.reduceLE, Int.reduceEq, Int.reduceNe]
      refine ⟨fun hlt2 => ?_, fun hge2 => ?_⟩
      · have hc : c < k := by omega
        obtain ⟨w, hw⟩ : ∃ w, w = u ++ [(c : Int)] := ⟨_, rfl⟩
        have hwl : w.length = u.length + 1 := by rw [hw]; simp
        have hwok : okK k w := by rw [hw]; exact okK_app.2 ⟨hrok.1, okK_one hc⟩
        refine s_appS (α := Int) (ix := 10) (xs := []) (L := lk []) rfl (Bld.nil gx _ _) (hr2.mono (lk_sub fun g hg => by simp at hg; rcases hg with rfl | rfl <;> simp)) rfl (Mem.le.refl _) rfl (by simp; omega) (by simp; unfold maxLen; omega) ?_
        intro v1 g1 hB1 _
        rw [List.nil_append] at hB1
        obtain ⟨A3, c3, rfl⟩ := hB1.val
        simp -implicitDefEqProofs only [go_sem, Nat.reduceBEq, Nat.reduceAdd, Nat.reduceSub, Nat.reduceMul, Nat.reduceLeDiff, reduceCtorEq, ↓reduceIte, Int.reduceLT, Int.reduceLE, Int.reduceEq, Int.reduceNe]
        intro b5
        refine s_app1S (α := Int) (ix := 11) (c : Int) rfl hB1 cells_one rfl (by omega) (by unfold maxLen; omega) ?_
        intro v2 g2 hB2 _
        rw [← hw] at hB2
        obtain ⟨A4, c4, rfl, hS4⟩ := hB2.slok (L' := lk [g2]) (Mem.le.refl _) (fun b o ⟨x, hx, _⟩ => by cases hx) (by omega)
        simp -implicitDefEqProofs only [go_sem, Nat.reduceBEq, Nat.reduceAdd, Nat.reduceSub, Nat.reduceMul, Nat.reduceLeDiff, reduceCtorEq, ↓reduceIte, Int.reduceLT, Int.reduceLE, Int.reduceEq, Int.reduceNe]
        generalize one b5 _ = g5
        refine CallVC.perm (Γm := [gk]) (Γf := [g5, gs, gt, gr, gl, ge, gf, ga, go, gd, g2, gy]) (learn_mark (Γr := [g5, gs, gt, gr, gl, ge, gf, ga, go, gd, g2, gy] ++ Γr) ⟨gt, by simp, hgt⟩ (hSe.mono (lk_sub fun g hg => by simp at hg; rcases hg with rfl | rfl <;> simp)) (by omega) hT.eok (hm.mono (lk_r _ _)) hK hk.2 (hS4.mono (lk_sub fun g hg => by simp at hg; subst hg; simp)) hwok (by omega)) (List.Perm.swap _ _ _) (List.Sublist.refl _) ?_
        rintro v Γ' ⟨gk', rfl, hK', rfl⟩
        obtain ⟨z, hz, hzm⟩ := List.mem_map.1 (hC u (List.mem_of_getElem? hui) c hc)
        obtain ⟨j, hj⟩ := List.getElem?_of_mem hz
        have hjl := (List.getElem?_eq_some_iff.1 hj).1
        have hkj : (rows.map (keyM L ends))[j]? = some (keyM L ends w) := by
          rw [List.getElem?_map, hj]
          simp only [Option.map_some, keyM]
          rw [hzm, hw]
        have hmw := hmk w
        simp only [keyM] at hmw
        simp -implicitDefEqProofs only [go_sem, Nat.reduceBEq, Nat.reduceAdd, Nat.reduceSub, Nat.reduceMul, Nat.reduceLeDiff, reduceCtorEq, ↓reduceIte, Int.reduceLT, Int.reduceLE, Int.reduceEq, Int.reduceNe]
        refine s_q trivial (qr_look (kt_strL (k := 9) (by kernel_rfl)) (t := 251) (et := 3) (z := .int .i64 0) (by kernel_rfl) (zero_run (by kernel_rfl)) false (hM.l (by simp)) (a := bitB (markL L ends w)) (by show (bitB (markL L ends w)).length ≤ 100000; omega)) ?_
        have hmg : mget (rows.map (keyM L ends)).zipIdx (bitB (markL L ends w)) = some j := mgetK hnd hkj
        rw [hmg]
        simp -implicitDefEqProofs only [Option.elim_some, natV, go_sem, Nat.reduceBEq, Nat.reduceAdd, Nat.reduceSub, Nat.reduceMul, Nat.reduceLeDiff, reduceCtorEq, ↓reduceIte, Int.reduceLT, Int.reduceLE, Int.reduceEq, Int.reduceNe]
        intro b6
        refine s_app1S (α := Int) (ix := 13) (j : Int) rfl hBy cells_one rfl (by omega) (by unfold maxLen; omega) ?_
        intro vr' gy' hBy' _
        simp -implicitDefEqProofs only [go_sem, Nat.reduceBEq, Nat.reduceAdd, Nat.reduceSub, Nat.reduceMul, Nat.reduceLeDiff, reduceCtorEq, ↓reduceIte, Int.reduceLT, Int.reduceLE, Int.reduceEq, Int.reduceNe]
        simp (disch := omega) only [wrap_id]
        refine ⟨f2 - 1, by omega, Up.sel [[1], [3], [4], [5], [6], [7], [8], [9], [10], [11], [12], [13]] (by decide) fun _ _ => ⟨c + 1, row ++ [(j : Int)], vr', _, _, _, rfl, by omega, rfl, hK', hBy', by simp [hrl], fun c' x hx => ?_⟩⟩
        rcases app_get hx with hx | ⟨rfl, rfl⟩
        · exact hrow c' x hx
        · exact ⟨j, z, rfl, hj, by rw [hrl]; exact hzm⟩
      · have hc : c = k := by omega
        obtain ⟨Ay1, cy1, ey, hSy⟩ := hBy.slok (L' := lk [gy]) (Mem.le.refl _) (fun b o ⟨x, hx, _⟩ => by cases hx) (by omega)
        simp only [Value.slice.injEq, true_and] at ey
        obtain ⟨rfl, rfl⟩ := ey
        obtain ⟨acs, hacs⟩ : ∃ acs, acs = (rows.take i).map fun w => if L w then (0 : Int) else -1 := ⟨_, rfl⟩
        have hal : acs.length = i := by rw [hacs]; simp; omega
        rw [← hacs] at hBa ⊢
        intro b7
        refine s_app1 (ix := 9) (L' := lk [gd, gy]) (x := row) rfl hBo (lk_sub (by simp)) (mk_list (hSy.mono (lk_sub (by simp)))) cells_one rfl (by omega) (by unfold maxLen; omega) ?_
        intro vo' go' hBo' _
        obtain ⟨Ao', co', rfl⟩ := hBo'.val
        simp -implicitDefEqProofs only [go_sem, Nat.reduceBEq, Nat.reduceAdd, Nat.reduceSub, Nat.reduceMul, Nat.reduceLeDiff, reduceCtorEq, ↓reduceIte, Int.reduceLT, Int.reduceLE, Int.reduceEq, Int.reduceNe]
        intro b8
        refine s_app1S (α := Int) (ix := 9) (-1 : Int) rfl hBa cells_one rfl (by omega) (by unfold maxLen; omega) ?_
        intro va' ga' hBa' _
        obtain ⟨Aa', ca', ea, hSa⟩ := hBa'.slok (L' := lk [ga']) (Mem.le.refl _) (fun b o ⟨x, hx, _⟩ => by cases hx) (by simp; omega)
        subst ea
        obtain ⟨b9, o9, hAa, _⟩ := hSa.int (i := acs.length) (by simp)
        simp -implicitDefEqProofs only [go_sem, Nat.reduceBEq, Nat.reduceAdd, Nat.reduceSub, Nat.reduceMul, Nat.reduceLeDiff, reduceCtorEq, ↓reduceIte, Int.reduceLT, Int.reduceLE, Int.reduceEq, Int.reduceNe]
        generalize one b7 _ = g7
        generalize one b8 _ = g8
        refine CallVC.perm (Γm := [gk]) (Γf := [g8, g7, gs, gt, gr, gl, ge, gf, ga', go', gd, gx, gy]) (learn_ask (Γr := [g8, g7, gs, gt, gr, gl, ge, gf, ga', go', gd, gx, gy] ++ Γr) ⟨gt, by simp, hgt⟩ (hm.mono (lk_r _ _)) hK hk.2 (hr2.mono (lk_sub fun g hg => by simp at hg; rcases hg with rfl | rfl <;> simp)) hrok.1 (by omega)) (List.perm_middle (l₁ := [g8, g7])) (List.Sublist.refl _) ?_
        rintro v Γ' ⟨gk', rfl, hK', rfl⟩
        have hnx' : ∀ (j : Nat) (u r : List Int), rows[j]? = some u → (nx ++ [row])[j]? = some r → r.length = k ∧ ∀ (c : Nat) (x : Int), r[c]? = some x → ∃ (j : Nat) (v : List Int), x = j ∧ rows[j]? = some v ∧ markL L ends v = markL L ends (u ++ [(c : Int)]) := fun j u' r h1 h2 => by
          rcases app_get h2 with h2 | ⟨rfl, rfl⟩
          · exact hnx j u' r h1 h2
          · rw [hnl, hui] at h1
            cases h1
            exact ⟨by omega, hrow⟩
        have hnext : ∀ x : Int, x = (if L u then (0 : Int) else -1) → acs ++ [x] = (rows.take (i + 1)).map fun w => if L w then (0 : Int) else -1 := fun x hx => by
          rw [htk, List.map_append, ← hacs, hx]
          simp
        simp -implicitDefEqProofs only [go_sem, Nat.reduceBEq, Nat.reduceAdd, Nat.reduceSub, Nat.reduceMul, Nat.reduceLeDiff, reduceCtorEq, ↓reduceIte, Int.reduceLT, Int.reduceLE, Int.reduceEq, Int.reduceNe]
        refine ⟨fun hL => ?_, fun hL => ?_⟩
        · have hw2 : IntKind.i64.wrap (((acs ++ [-1]).length : Int) - 1) = (acs.length : Int) := by
            have hl1 : (acs ++ [-1]).length = i + 1 := by simp [hal]
            rw [hl1, wrap_id (by omega) (by omega)]
            omega
          rw [hw2]
          refine s_idx hAa (by omega) (by simp; omega) ?_
          simp -implicitDefEqProofs only [go_sem, Nat.reduceBEq, Nat.reduceAdd, Nat.reduceSub, Nat.reduceMul, Nat.reduceLeDiff, reduceCtorEq, ↓reduceIte, Int.reduceLT, Int.reduceLE, Int.reduceEq, Int.reduceNe]
          subst hAa
          refine s_storeB (α := Int) (ix := 9) (0 : Int) rfl hBa' (by simp) ?_
          intro ga2 hBa2 _
          rw [List.set_append_right _ _ (Nat.le_refl _), Nat.sub_self, List.set_cons_zero, hnext 0 (by rw [if_pos hL])] at hBa2
          simp -implicitDefEqProofs only [go_sem, Nat.reduceBEq, Nat.reduceAdd, Nat.reduceSub, Nat.reduceMul, Nat.reduceLeDiff, reduceCtorEq, ↓reduceIte, Int.reduceLT, Int.reduceLE, Int.reduceEq, Int.reduceNe]
          simp (disch := omega) only [wrap_id]
          refine Up.sel [[0], [3], [4], [5], [6], [7], [8], [9], [10], [11, 13], [12]] (by decide) fun _ hm2 => ⟨f - 1, by omega, Up.here ⟨i + 1, bb, nx ++ [row], _, _, _, _, _, _, _, rfl, by omega, rfl, hK', hBa2, hBo'.mono (Mem.le.refl _) (hm2 [11, 13] (by simp)), by simp [hnl], hnx'⟩⟩
        · have hE := hnext (-1) (by rw [if_neg (by simpa using hL)])
          have hBa2 : Bld ga' (lk []) 3 (.slice Aa' (acs ++ [-1]).length ca') ((rows.take (i + 1)).map fun w => if L w then (0 : Int) else -1) := by rw [← hE]; exact hBa'
          simp (disch := omega) only [wrap_id]
          refine Up.sel [[0], [3], [4], [5], [6], [7], [8], [9], [10], [11, 13], [12]] (by decide) fun _ hm2 => ⟨f - 1, by omega, Up.here ⟨i + 1, bb, nx ++ [row], _, _, _, _, _, _, _, rfl, by omega, rfl, hK', hBa2, hBo'.mono (Mem.le.refl _) (hm2 [11, 13] (by simp)), by simp [hnl], hnx'⟩⟩
    · have hi : i = rows.length := by omega
      rw [hi, List.take_length] at hBa ⊢
      refine Up.sel [[7, 8, 9], [0], [2], [3], [4], [5], [6]] (by decide) fun _ hm2 => ?_
      have hle := hm2 [7, 8, 9] (by simp)
      subst hR
      obtain ⟨A8, c8, e8, hS8⟩ := hBa.slok (Mem.le.trans (lk_sub (by simp [sel])) hle) (fun b o ⟨x, hx, _⟩ => by cases hx) (by simp; omega)
      obtain ⟨A9, c9, e9, hS9⟩ := hBo.slok (Mem.le.trans (lk_sub (by simp [sel])) hle) (Mem.le.trans (lk_sub (by simp [sel])) hle) (by omega)
      refine ⟨_, _, ⟨0, rows.map fun w => if L w then (0 : Int) else -1, nx⟩, A8, c8, A9, c9, rfl, ⟨_, _, _, _, _, _, Ar, Ae, cr, ce, rfl, hgt, hBr, hBe, hK⟩, by rw [e8, e9], hS8, hS9, rfl, by rw [hnl, hi], rfl, hnx⟩
end Go.Proofs.Ytniobbepliknmaa.V
/- The text of (*parlance/learn.table).split as a statement (slots: 0 t, 1 w, 2 t, 3 w, 4 d, 5 s, 6 i, 7 x); no condition. -/
namespace Go.Proofs.Ytniobbepliknmaa.V
open Go
def S160_1 : Stmt :=
  Stmt.seq
  (Stmt.region [SOper.mk (some 13) none (SOp.ibin BinOp.lss (Operand.tmp 12) (Operand.tmp 11))]
    [0, 1, 4, 5, 10, 11, 12, 13])
  (Stmt.seq (Stmt.cond (Operand.tmp 13) Stmt.skip (Stmt.exit 0))
    (Stmt.seq
      (Stmt.block 1
        (Stmt.seq
          (Stmt.region
            [SOper.mk (some 14) none (SOp.mv (Operand.tmp 12)),
              SOper.mk (some 15) none (SOp.idx 1 (Operand.tmp 10) (Operand.tmp 12)),
              SOper.mk (some 16) none (SOp.load false 1 (Operand.tmp 15)),
              SOper.mk (some 6) none (SOp.mv (Operand.tmp 14)), SOper.mk (some 7) none (SOp.mv (Operand.tmp 16))]
            [0, 1, 4, 5, 6, 7, 10, 11, 12])
          (Stmt.seq
            (Stmt.seq
              (Stmt.drawn
                [(false, SOper.mk (some 17) none (SOp.mv (Operand.tmp 0))),
                  (false, SOper.mk (some 18) none (SOp.mv (Operand.tmp 0))),
                  (false, SOper.mk (some 19) none (SOp.nilCheck (Operand.tmp 18))),
                  (false, SOper.mk (some 20) none (SOp.fld 3 (Operand.tmp 19))),
                  (false, SOper.mk (some 21) none (SOp.load false 1 (Operand.tmp 20))),
                  (false, SOper.mk (some 22) none (SOp.fld 2 (Operand.tmp 4))),
                  (false, SOper.mk (some 23) none (SOp.load false 1 (Operand.tmp 22))),
                  (false, SOper.mk (some 24) none (SOp.mv (Operand.tmp 5))),
                  (false, SOper.mk (some 25) none (SOp.idx 1 (Operand.tmp 23) (Operand.tmp 24))),
                  (false, SOper.mk (some 26) none (SOp.load false 1 (Operand.tmp 25))),
                  (false, SOper.mk (some 27) none (SOp.mv (Operand.tmp 7))),
                  (false, SOper.mk (some 28) none (SOp.idx 1 (Operand.tmp 26) (Operand.tmp 27))),
                  (false, SOper.mk (some 29) none (SOp.load false 1 (Operand.tmp 28))),
                  (false, SOper.mk (some 30) none (SOp.idx 1 (Operand.tmp 21) (Operand.tmp 29))),
                  (false, SOper.mk (some 31) none (SOp.load false 1 (Operand.tmp 30))),
                  (false, SOper.mk (some 33) none (SOp.mv (Operand.tmp 1))),
                  (false, SOper.mk (some 34) none (SOp.mv (Operand.tmp 6))),
                  (false,
                    SOper.mk (some 35) none
                      (SOp.ibin BinOp.add (Operand.tmp 34) (Operand.const (Value.int IntKind.i64 1)))),
                  (false, SOper.mk (some 36) none (SOp.slc 1 (Operand.tmp 33) (some (Operand.tmp 35)) none none)),
                  (false, SOper.mk (some 39) none (SOp.mv (Operand.tmp 0))),
                  (false, SOper.mk (some 40) none (SOp.mv (Operand.tmp 0))),
                  (false, SOper.mk (some 41) none (SOp.nilCheck (Operand.tmp 40))),
                  (false, SOper.mk (some 42) none (SOp.fld 3 (Operand.tmp 41))),
                  (true, SOper.mk (some 43) none (SOp.load false 1 (Operand.tmp 42))),
                  (false, SOper.mk (some 44) none (SOp.mv (Operand.tmp 5))),
                  (false, SOper.mk (some 45) none (SOp.idx 1 (Operand.tmp 43) (Operand.tmp 44))),
                  (true, SOper.mk (some 46) none (SOp.load false 1 (Operand.tmp 45))),
                  (false, SOper.mk (some 48) none (SOp.mv (Operand.tmp 1))),
                  (false, SOper.mk (some 49) none (SOp.mv (Operand.tmp 6))),
                  (false, SOper.mk (some 50) none (SOp.slc 1 (Operand.tmp 48) (some (Operand.tmp 49)) none none)),
                  (false,
                    SOper.mk (some 32) none
                      (SOp.append 29 3 1 8 (Value.int IntKind.i64 0) (Operand.const (Value.slice none 0 0))
                        (Operand.tmp 31))),
                  (false,
                    SOper.mk (some 37) none
                      (SOp.append 29 3 1 8 (Value.int IntKind.i64 0) (Operand.tmp 32) (Operand.tmp 36))),
                  (false, SOper.mk (some 38) none (SOp.call (Operand.func 159) [Operand.tmp 17, Operand.tmp 37])),
                  (false,
                    SOper.mk (some 47) none
                      (SOp.append 29 3 1 8 (Value.int IntKind.i64 0) (Operand.const (Value.slice none 0 0))
                        (Operand.tmp 46))),
                  (false,
                    SOper.mk (some 51) none
                      (SOp.append 29 3 1 8 (Value.int IntKind.i64 0) (Operand.tmp 47) (Operand.tmp 50))),
                  (false, SOper.mk (some 52) none (SOp.call (Operand.func 159) [Operand.tmp 39, Operand.tmp 51])),
                  (false, SOper.mk (some 53) none (SOp.beq true (Operand.tmp 38) (Operand.tmp 52)))]
                [0, 1, 4, 5, 6, 7, 10, 11, 12, 53])
              (Stmt.cond (Operand.tmp 53)
                (Stmt.seq
                  (Stmt.tree
                    (DT.q (false, SOper.mk (some 54) none (SOp.mv (Operand.tmp 0)))
                      (DT.q (false, SOper.mk (some 55) none (SOp.mv (Operand.tmp 0)))
                        (DT.q (false, SOper.mk (some 59) none (SOp.mv (Operand.tmp 1)))
                          (DT.q (false, SOper.mk (some 60) none (SOp.mv (Operand.tmp 6)))
                            (DT.q (false, SOper.mk (some 56) none (SOp.nilCheck (Operand.tmp 55)))
                              (DT.q
                                (false,
                                  SOper.mk (some 61) none
                                    (SOp.ibin BinOp.add (Operand.tmp 60) (Operand.const (Value.int IntKind.i64 1))))
                                (DT.q (false, SOper.mk (some 57) none (SOp.fld 4 (Operand.tmp 56)))
                                  (DT.q
                                    (false,
                                      SOper.mk (some 62) none
                                        (SOp.slc 1 (Operand.tmp 59) (some (Operand.tmp 61)) none none))
                                    (DT.alt (false, SOper.mk (some 58) none (SOp.load false 1 (Operand.tmp 57)))
                                      (DT.alt
                                        (false,
                                          SOper.mk (some 63) none
                                            (SOp.append 29 3 1 8 (Value.int IntKind.i64 0)
                                              (Operand.const (Value.slice none 0 0)) (Operand.tmp 62)))
                                        (DT.alt
                                          (false,
                                            SOper.mk (some 64) none
                                              (SOp.buildS 29 1 [Value.slice none 0 0] [(0, 1, Operand.tmp 63)]))
                                          (DT.alt
                                            (false,
                                              SOper.mk (some 65) none
                                                (SOp.append 65 29 1 24 (Value.slice none 0 0) (Operand.tmp 58)
                                                  (Operand.tmp 64)))
                                            (DT.q (false, SOper.mk (some 66) none (SOp.nilCheck (Operand.tmp 54)))
                                              (DT.q (false, SOper.mk (some 67) none (SOp.fld 4 (Operand.tmp 66)))
                                                (DT.alt
                                                  (false,
                                                    SOper.mk none none (SOp.store 1 (Operand.tmp 67) (Operand.tmp 65)))
                                                  DT.fin DT.no)))
                                            DT.no)
                                          DT.no)
                                        DT.no)
                                      (DT.alt
                                        (false,
                                          SOper.mk (some 63) none
                                            (SOp.append 29 3 1 8 (Value.int IntKind.i64 0)
                                              (Operand.const (Value.slice none 0 0)) (Operand.tmp 62)))
                                        (DT.alt (false, SOper.mk (some 58) none (SOp.load false 1 (Operand.tmp 57)))
                                          (DT.alt
                                            (false,
                                              SOper.mk (some 64) none
                                                (SOp.buildS 29 1 [Value.slice none 0 0] [(0, 1, Operand.tmp 63)]))
                                            (DT.alt
                                              (false,
                                                SOper.mk (some 65) none
                                                  (SOp.append 65 29 1 24 (Value.slice none 0 0) (Operand.tmp 58)
                                                    (Operand.tmp 64)))
                                              (DT.q (false, SOper.mk (some 66) none (SOp.nilCheck (Operand.tmp 54)))
                                                (DT.q (false, SOper.mk (some 67) none (SOp.fld 4 (Operand.tmp 66)))
                                                  (DT.alt
                                                    (false,
                                                      SOper.mk none none
                                                        (SOp.store 1 (Operand.tmp 67) (Operand.tmp 65)))
                                                    DT.fin DT.no)))
                                              DT.no)
                                            DT.no)
                                          (DT.alt
                                            (false,
                                              SOper.mk (some 64) none
                                                (SOp.buildS 29 1 [Value.slice none 0 0] [(0, 1, Operand.tmp 63)]))
                                            (DT.alt (false, SOper.mk (some 58) none (SOp.load false 1 (Operand.tmp 57)))
                                              (DT.alt
                                                (false,
                                                  SOper.mk (some 65) none
                                                    (SOp.append 65 29 1 24 (Value.slice none 0 0) (Operand.tmp 58)
                                                      (Operand.tmp 64)))
                                                (DT.q (false, SOper.mk (some 66) none (SOp.nilCheck (Operand.tmp 54)))
                                                  (DT.q (false, SOper.mk (some 67) none (SOp.fld 4 (Operand.tmp 66)))
                                                    (DT.alt
                                                      (false,
                                                        SOper.mk none none
                                                          (SOp.store 1 (Operand.tmp 67) (Operand.tmp 65)))
                                                      DT.fin DT.no)))
                                                DT.no)
                                              DT.no)
                                            DT.no))
                                        DT.no))))))))))
                    [])
                  Stmt.ret)
                Stmt.skip))
            (Stmt.region
              [SOper.mk (some 68) none (SOp.fld 2 (Operand.tmp 4)),
                SOper.mk (some 69) none (SOp.load false 1 (Operand.tmp 68)),
                SOper.mk (some 70) none (SOp.mv (Operand.tmp 5)),
                SOper.mk (some 71) none (SOp.idx 1 (Operand.tmp 69) (Operand.tmp 70)),
                SOper.mk (some 72) none (SOp.load false 1 (Operand.tmp 71)),
                SOper.mk (some 73) none (SOp.mv (Operand.tmp 7)),
                SOper.mk (some 74) none (SOp.idx 1 (Operand.tmp 72) (Operand.tmp 73)),
                SOper.mk (some 75) none (SOp.load false 1 (Operand.tmp 74)),
                SOper.mk (some 5) none (SOp.mv (Operand.tmp 75))]
              [0, 1, 4, 5, 10, 11, 12]))))
      (Stmt.region
        [SOper.mk (some 76) none (SOp.ibin BinOp.add (Operand.tmp 12) (Operand.const (Value.int IntKind.i64 1))),
          SOper.mk (some 12) none (SOp.mv (Operand.tmp 76))]
        [0, 1, 4, 5, 10, 11, 12])))
def S160_0 : Stmt :=
  Stmt.seq
  (Stmt.region
    [SOper.mk (some 8) none (SOp.mv (Operand.tmp 0)),
      SOper.mk (some 9) none (SOp.call (Operand.func 156) [Operand.tmp 8]),
      SOper.mk (some 4) none
        (SOp.alloc true 67
          (Value.agg (Array.mk [Value.int IntKind.i64 0, Value.slice none 0 0, Value.slice none 0 0]))),
      SOper.mk none none (SOp.store 3 (Operand.tmp 4) (Operand.tmp 9))]
    [0, 1, 4])
  (Stmt.seq (Stmt.region [SOper.mk (some 5) none (SOp.mv (Operand.const (Value.int IntKind.i64 0)))] [0, 1, 4, 5])
    (Stmt.seq
      (Stmt.region
        [SOper.mk (some 10) none (SOp.mv (Operand.tmp 1)), SOper.mk (some 11) none (SOp.len false (Operand.tmp 10)),
          SOper.mk (some 12) none (SOp.mv (Operand.const (Value.int IntKind.i64 0)))]
        [0, 1, 4, 5, 10, 11, 12])
      (Stmt.block 0 (Stmt.loop S160_1 [5, 12] [0, 1, 4, 10, 11]))))
def S160 : FnS := ⟨77, [], S160_0⟩
theorem tr160 : trFn Try.prog 160 [4] [[0, 1, 4], [0, 1, 4, 5], [0, 1, 4, 5, 10, 11, 12], [5, 12], [0, 1, 4, 10, 11], [0, 1, 4, 5, 10, 11, 12, 13], [0, 1, 4, 5, 6, 7, 10, 11, 12], [0, 1, 4, 5, 6, 7, 10, 11, 12, 53], [0, 1, 2, 3, 4, 5, 6, 7, 8, 9, 10, 11, 12, 13, 14, 16, 17, 18, 19, 22, 23, 24, 25, 26, 27, 28, 29, 31, 32, 33, 15, 20, 21, 30, 34, 35, 36], [26, 29], [], [], [1], [1, 2], [1, 2, 3], [], [5], [], [5, 6, 7], [5, 6, 7, 8], [], [5, 6, 7, 8, 9, 10], [5, 6, 7, 8, 9, 10, 11], [1, 2, 3, 4, 5, 6, 7, 8, 9, 10, 11, 12], [1, 2, 3, 4, 5, 6, 7, 8, 9, 10, 11, 12, 13], [1, 2, 3, 4, 5, 6, 7, 8, 9, 10, 11, 12, 13, 14], [], [], [17], [16, 17, 18], [1, 2, 3, 4, 5, 6, 7, 8, 9, 10, 11, 12, 13, 14, 15, 16, 17, 18, 19], [0, 1, 2, 3, 4, 5, 6, 7, 8, 9, 10, 11, 12, 13, 14, 15, 16, 17, 18, 19, 20], [], [], [23], [23, 24], [23, 24, 25], [], [23, 24, 25, 26, 27], [23, 24, 25, 26, 27, 28], [0, 1, 2, 3, 4, 5, 6, 7, 8, 9, 10, 11, 12, 13, 14, 15, 16, 17, 18, 19, 20, 21, 23, 24, 25, 26, 27, 28, 29], [], [], [31, 32], [0, 1, 2, 3, 4, 5, 6, 7, 8, 9, 10, 11, 12, 13, 14, 15, 16, 17, 18, 19, 20, 21, 23, 24, 25, 26, 27, 28, 29, 30, 31, 32, 33], [0, 1, 2, 3, 4, 5, 6, 7, 8, 9, 10, 11, 12, 13, 14, 15, 16, 17, 18, 19, 20, 21, 22, 23, 24, 25, 26, 27, 28, 29, 30, 31, 32, 33, 34], [0, 1, 2, 3, 4, 5, 6, 7, 8, 9, 10, 11, 12, 13, 14, 15, 16, 17, 18, 19, 20, 21, 22, 23, 24, 25, 26, 27, 28, 29, 30, 31, 32, 33, 34, 35], [], [], [2, 0, 2, 1, 2, 5, 2, 6, 2, 2, 2, 7, 2, 3, 2, 8, 3, 4, 3, 9, 3, 10, 3, 11, 2, 12, 2, 13, 3, 14, 0, 1, 1, 1, 1, 3, 9, 3, 4, 3, 10, 3, 11, 2, 12, 2, 13, 3, 14, 0, 1, 1, 1, 3, 10, 3, 4, 3, 11, 2, 12, 2, 13, 3, 14, 0, 1, 1, 1, 1, 1], [], [], [], [1], [1, 2], [1, 2, 3], [], [], [6], [5, 6, 7], [5, 6, 7, 8], [5, 6, 7, 8, 9], [1, 2, 3, 4, 5, 6, 7, 8, 9, 10], [0, 1, 2, 3, 4, 5, 6, 7, 8, 9, 10, 11], [0, 1, 2, 3, 4, 5, 6, 7, 8, 9, 10, 11, 12], [0, 1, 2, 3, 4, 5, 6, 7, 8, 9, 10, 11, 12, 13], [0, 1, 4, 5, 10, 11, 12], [0, 1, 4, 5, 10, 11, 12]] = some S160 := by kernel_rfl
end Go.Proofs.Ytniobbepliknmaa.V
/- learn.table.split walked; no condition. -/
namespace Go.Proofs.Ytniobbepliknmaa.V
open Go
set_option linter.unusedVariables false
set_option linter.unusedSimpArgs false
attribute [local go_sem] e_seq e_region e_quiet e_join e_loop e_cond e_block e_exit e_ret e_skip e_fin e_kseq e_snrm e_sret e_sex e_bnrm e_bret e_bex e_rnrm e_rret e_res e_condC e_nil e_g e_mv g_mv e_pick g_pick pickC_eq e_ibin g_ibin ibinC_eq e_sbin g_sbin e_beq g_beq beqC_eq e_nilq g_nilq nilqC_sl nilqC_pt nilqC_mp e_un g_un unC_not unC_neg e_conv g_conv convC_eq e_fld g_fld fldC_ref fldC_ptr e_nilCheck g_nilCheck nilCheckC_ref nilCheckC_ptr nilCheckC_fun e_field g_field fieldC_eq e_len g_len lenC_sl lenC_str e_extract g_extract extractC_eq e_mkFunc e_build g_build e_idiv g_idiv idivC_eq e_ishift g_ishift ishiftC_eq e_idx g_idx e_idxA g_idxA e_load g_load e_loadB g_loadB atB_ref atB_v g_mkFunc loadC_ref loadC_ptr loadB_eq e_slc g_slc e_box boxC_loc boxC_esc e_alloc allocC_loc allocC_esc e_buildS e_store storeC_ref storeC_ptr storeB_eq e_append e_appz e_mk mkC_eq e_call callC_eq e_fn g_fn fnC_eq fnV_min' fnV_max' fnV_rune' e_q g_q e_a e_n g_call g_box g_alloc g_buildS g_store g_append g_mk g_a g_n g_dead e_dead e_callK e_drawn e_tree e_finJ e_tk e_tfin e_tno e_nbt_q e_nbt_qn e_nbt_a e_nbt_an e_nbt_fin e_drawnB e_bxb_nil e_bxb e_stB_none e_stB_some boxSt_store bs_mv bs_pick bs_ibin bs_idiv bs_ishift bs_sbin bs_beq bs_nilq bs_un bs_conv bs_box bs_alloc bs_build bs_buildS bs_load bs_fld bs_nilCheck bs_idx bs_idxA bs_field bs_slc bs_len bs_append bs_appz bs_mk bs_call bs_extract bs_mkFunc bs_fn bs_q bs_a bs_n bs_loadB bs_dead isBox_box e_early_nil e_early_t e_early_f e_nob_nil e_nob_none e_nob_some isBox_dead isBox_v isBox_ref e_dnil e_dk e_ek e_finB vcOps_vc1 e_dcons e_tq e_ekt e_tearly e_talt e_dearly look_nil look_c proj_nil proj_c looks_nil looks_c zip_nil zip_c val_tmp val_const val_func slv_v slv_box slv_ref slot_tmp slot_const slot_func slotL_v slotL_box slotL_ref put_some put_none updBox_c boxSet_box gd_eq slotVals_nil slotVals_c slotVals_b boxV_box boxOn_box slotsOn_nil slotsOn_c slotsOn_b resV_one resV_two vals_nil vals_c allOn_nil allOn_c partOn_nil partOn_c partVals_nil partVals_c fits_nil fits_c fillL_nil fillL_c mkv_one mkv_agg cellsV_agg cellsV_int cellsV_bool cellsV_slice cellsV_string cellsV_pointer cellsV_func cellsV_nilf cellsV_map one'_nil one'_c oc_int oc_bool oc_slice oc_string oc_pointer oc_func oc_nilf oc_map setC_eq iv_add iv_sub iv_mul iv_eql iv_neq iv_lss iv_leq iv_gtr iv_geq iok_add iok_sub iok_mul iok_eql iok_neq iok_lss iok_leq iok_gtr iok_geq pickV_bool args0_nil args0_c bnd_none bnd_some imp_bt imp_bf imp_ebt imp_ebf imp_eb1 imp_np imp_pp beq_tt beq_tf beq_ft beq_ff cond_or cond_and e_round e_meet Int.le_refl Int.toNat_zero decide_true decide_false Bool.or_false Bool.false_or Bool.true_or Bool.or_true Bool.and_false Bool.false_and Bool.bne_false Bool.bne_true beq_iff_eq Int.cast_ofNat_Int not_false_eq_true not_true_eq_false false_and and_false false_implies true_implies true_and and_true Bool.true_and Bool.and_true Bool.not_true Bool.not_false forall_const implies_true List.take_zero List.drop_zero List.take_succ_cons List.drop_succ_cons List.take_nil List.drop_nil List.length_cons List.length_nil List.nil_append List.append_nil List.cons_append Int.toNat_natCast decide_eq_true_eq decide_eq_false_iff_not cond_true cond_false and_self List.getElem?_cons_zero List.getElem?_cons_succ List.set_cons_zero List.set_cons_succ Option.some.injEq exists_eq_left' Nat.zero_add Nat.add_zero Nat.mul_one imp_self true_or or_true or_false false_or Bool.or_eq_true Bool.or_eq_false_iff Bool.and_eq_true Bool.and_eq_false_iff Bool.not_eq_true' Bool.not_eq_false'

theorem GuessL.same {L : List Int → Bool} {k : Nat} {ends rows : List (List Int)} {g g' : Da} (G : GuessL L k ends rows g) (G' : GuessL L k ends rows g') (T : TabL L k ends rows) : ∀ {w : List Int} {i : Nat}, i < rows.length → okK k w → tlN g i w = tlN g' i w
  | [], i, hi, _ => by
    show fA g i = fA g' i
    rw [G.acc (List.getElem?_eq_getElem hi), G'.acc (List.getElem?_eq_getElem hi)]
  | c :: w, i, hi, hw => by
    have hc := hw c (by simp)
    obtain ⟨m, rfl⟩ : ∃ m : Nat, c = m := ⟨c.toNat, by omega⟩
    obtain ⟨v, h1, h2, _⟩ := G.step T (List.getElem?_eq_getElem hi) (c := m) (by omega)
    obtain ⟨v', h1', h2', _⟩ := G'.step T (List.getElem?_eq_getElem hi) (c := m) (by omega)
    have e := T.dif _ _ v v' h1 h1' (h2.trans h2'.symm)
    rw [tlN_cons, tlN_cons, ← e]
    exact G.same G' T (w := w) (List.getElem?_eq_some_iff.1 h1).1 (fun x hx => hw x (by simp [hx]))
theorem goN_snoc (d : Da) (s : Nat) (w : List Int) (c : Int) : goN d s (w ++ [c]) = gI d (goN d s w) c := by simp [goN]
theorem learn_split {Γr : Ctx} {t bk k : Nat} {fv : Value} {L : List Int → Bool} (hm : MemOk Γr fv k L) (hk : 1 ≤ k ∧ k ≤ 16) {ends rows : List (List Int)} (hel : ends.length ≤ 800) (hT : TabL L k ends rows) (hC : ClosL L k ends rows) (hb : rows.length ≤ 200) {Γ0 : Ctx} (hW : TabW t bk k fv L ends rows Γ0)
    {W : Option Addr} {cw : Nat} {w : List Int} (hw : SlOk (lk Γr) W cw w) (hwok : okK k w) (hwl : w.length ≤ 2000) (hne : ∀ g, GuessL L k ends rows g → decide (0 ≤ tlN g 0 w) ≠ L w) :
    Ret Try.prog 160 [.pointer (some ⟨t, 0, none⟩), .slice W w.length cw] Γr Γ0 (fun v Γ => ∃ e, TabW t bk k fv L (ends ++ [e]) rows Γ ∧ TabL L k (ends ++ [e]) rows ∧ OpenL L k (ends ++ [e]) rows) := by
  generalize hR : (fun (v : Value) (Γ : Ctx) => ∃ e, _) = R
  refine ret_of_vc tr160 (Nat.le_of_ble_eq_true rfl) ?_
  have hΓ0 : Γ0.length = 6 := by obtain ⟨gk, gt, gr, gl, ge, gf, Ar, Ae, cr, ce, rfl, _⟩ := hW; rfl
  simp -implicitDefEqProofs only [S160, S160_0, go_sem, Nat.reduceBEq, Nat.reduceAdd, Nat.reduceSub, Nat.reduceMul, Nat.reduceLeDiff, reduceCtorEq, ↓reduceIte, Int.reduceLT, Int.reduceLE, Int.reduceEq, Int.reduceNe]
  refine CallVC.perm (Γm := Γ0) (Γf := []) (learn_guess (Γr := Γr) hm hk (by omega) hT hC hb hW) (by simp) (List.Sublist.refl _) ?_
  rintro v Γ' ⟨Γ1, gg, g, A1, c1, B1, e1, rfl, ⟨gk, gt, gr, gl, ge, gf, Ar, Ae, cr, ce, rfl, hgt, hBr, hBe, hK⟩, rfl, hSA, hSB, G⟩
  have hg := hne g G
  clear hW
  obtain ⟨Ae1, ce1, ee, hSe⟩ := hBe.slok (L' := lk [ge, gf]) (lk_sub (by simp)) (lk_sub (by simp)) (by omega)
  simp only [Value.slice.injEq, true_and] at ee
  obtain ⟨rfl, rfl⟩ := ee
  obtain ⟨Ar1, cr1, er, hSr⟩ := hBr.slok (L' := lk [gr, gl]) (lk_sub (by simp)) (lk_sub (by simp)) (by omega)
  simp only [Value.slice.injEq, true_and] at er
  obtain ⟨rfl, rfl⟩ := er
  have hr0 := hT.row0
  have hr0l := (List.getElem?_eq_some_iff.1 hr0).1
  simp -implicitDefEqProofs only [go_sem, Nat.reduceBEq, Nat.reduceAdd, Nat.reduceSub, Nat.reduceMul, Nat.reduceLeDiff, reduceCtorEq, ↓reduceIte, Int.reduceLT, Int.reduceLE, Int.reduceEq, Int.reduceNe]
  intro b4
  refine s_loop (fun f vs Γ => ∃ (i s : Nat) (u : List Int) (gk gx : PH), vs = [.v true (.int .i64 s), .v true (.int .i64 i)] ∧ i + f = w.length ∧ Γ = [gk, gx, gt, gr, gl, ge, gf, gg] ∧ Known gk bk k L ∧ s = goN g 0 (w.take i) ∧ rows[s]? = some u ∧ L (u ++ w.drop i) = L w) w.length
    (Up.sel [[1], [], [2], [3], [4], [5], [6], [0]] (by decide) fun _ _ => ⟨0, 0, [], _, _, rfl, by omega, rfl, hK, rfl, hr0, by simp⟩) ?_
  clear hK
  rintro f vs Γ ⟨i, s, u, gk, gx, rfl, hif, rfl, hK, hs, hu, hL⟩
  have hsl := (List.getElem?_eq_some_iff.1 hu).1
  have hue := (List.getElem?_eq_some_iff.1 hu).2
  simp -implicitDefEqProofs only [S160_1, go_sem, Nat.reduceBEq, Nat.reduceAdd, Nat.reduceSub, Nat.reduceMul, Nat.reduceLeDiff, reduceCtorEq, ↓reduceIte, Int.reduceLT, Int.reduceLE, Int.reduceEq, Int.reduceNe]
  refine ⟨fun hlt => ?_, fun hge => ?_⟩
  · have hi : i < w.length := by omega
    have hx := hwok _ (List.getElem_mem hi)
    obtain ⟨x, hxx⟩ : ∃ x : Nat, w[i] = (x : Int) := ⟨w[i].toNat, by omega⟩
    have hxk : x < k := by omega
    obtain ⟨v, hv, hvm, hst⟩ := G.step hT hu hxk
    obtain ⟨j, hj⟩ : ∃ j, j = gI g s (x : Int) := ⟨_, rfl⟩
    rw [← hj] at hv hst
    have hjl := (List.getElem?_eq_some_iff.1 hv).1
    have hve := (List.getElem?_eq_some_iff.1 hv).2
    have hurok := hT.rok s u hu
    have hvrok := hT.rok j v hv
    have hgl := G.len
    have hrl : (g.nx[s]'(by omega)).length = k := (G.row s u _ hu (List.getElem?_eq_getElem (by omega))).1
    have hat := step_at (d := g) (s := s) (by omega) (x := x) (by omega)
    rw [hst] at hat
    obtain ⟨b1, o1, hW1, hc1⟩ := hw.int hi
    rw [hxx] at hc1
    obtain ⟨b2, o2, hB1, A3, c3, hr3, hc3⟩ := hSB.list (i := s) (by omega)
    obtain ⟨b5, o5, hA3, hc5⟩ := hr3.int (i := x) (by omega)
    rw [← hat] at hc5
    rw [hrl] at hc3
    obtain ⟨b6, o6, hAr, A6, c6, hr6, hc6⟩ := hSr.list (i := j) hjl
    rw [hve] at hr6 hc6
    obtain ⟨b7, o7, hAr7, A7, c7, hr7, hc7⟩ := hSr.list (i := s) hsl
    rw [hue] at hr7 hc7
    have hd0 : w.drop i = (x : Int) :: w.drop (i + 1) := by rw [← hxx]; exact List.drop_eq_getElem_cons hi
    have hdk : okK k (w.drop i) := fun y hy => hwok y (List.mem_of_mem_drop hy)
    have hdk1 : okK k (w.drop (i + 1)) := fun y hy => hwok y (List.mem_of_mem_drop hy)
    have hm8 : ∀ (X : Ctx) (gs : Ctx), (∀ g ∈ X, g ∈ gs) → Mem.le (lk X) (lk (gs ++ Γr)) := fun X gs h => lk_sub fun g hg => by simp [h g hg]
    refine s_idx hW1 (by omega) (by omega) ?_
    simp -implicitDefEqProofs only [go_sem, Nat.reduceBEq, Nat.reduceAdd, Nat.reduceSub, Nat.reduceMul, Nat.reduceLeDiff, reduceCtorEq, ↓reduceIte, Int.reduceLT, Int.reduceLE, Int.reduceEq, Int.reduceNe]
    refine s_ld0 (hc1 _ (lk_r _ _)) (by simp) (by simp) ?_
    simp -implicitDefEqProofs only [go_sem, Nat.reduceBEq, Nat.reduceAdd, Nat.reduceSub, Nat.reduceMul, Nat.reduceLeDiff, reduceCtorEq, ↓reduceIte, Int.reduceLT, Int.reduceLE, Int.reduceEq, Int.reduceNe]
    refine s_drawn [gk, gx] [gt, gr, gl, ge, gf, gg] (Ent.refl _) ?_
    simp -implicitDefEqProofs only [go_sem, Nat.reduceBEq, Nat.reduceAdd, Nat.reduceSub, Nat.reduceMul, Nat.reduceLeDiff, reduceCtorEq, ↓reduceIte, Int.reduceLT, Int.reduceLE, Int.reduceEq, Int.reduceNe]
    have hmr : ∀ gs : Ctx, Mem.le (lk [gr, gl]) (lk (gs ++ (gt :: gr :: gl :: ge :: gf :: gg :: Γr))) := fun gs => lk_sub fun g hg => by simp at hg; rcases hg with rfl | rfl <;> simp
    have hmg : ∀ gs : Ctx, Mem.le (lk [gg]) (lk (gs ++ (gt :: gr :: gl :: ge :: gf :: gg :: Γr))) := fun gs => lk_sub fun g hg => by simp at hg; subst hg; simp
    have hmw : ∀ gs : Ctx, Mem.le (lk Γr) (lk (gs ++ (gt :: gr :: gl :: ge :: gf :: gg :: Γr))) := fun gs => lk_sub fun g hg => by simp [hg]
    refine s_ld (j := 3) (cells_lk ⟨gt, by simp, hgt⟩) (by simp) (by simp) ?_
    simp -implicitDefEqProofs only [go_sem, Nat.reduceBEq, Nat.reduceAdd, Nat.reduceSub, Nat.reduceMul, Nat.reduceLeDiff, reduceCtorEq, ↓reduceIte, Int.reduceLT, Int.reduceLE, Int.reduceEq, Int.reduceNe]
    refine s_idx hB1 (by omega) (by omega) ?_
    simp -implicitDefEqProofs only [go_sem, Nat.reduceBEq, Nat.reduceAdd, Nat.reduceSub, Nat.reduceMul, Nat.reduceLeDiff, reduceCtorEq, ↓reduceIte, Int.reduceLT, Int.reduceLE, Int.reduceEq, Int.reduceNe]
    refine s_ld0 (hc3 _ (hmg [gk, gx])) (by simp) (by simp) ?_
    simp -implicitDefEqProofs only [go_sem, Nat.reduceBEq, Nat.reduceAdd, Nat.reduceSub, Nat.reduceMul, Nat.reduceLeDiff, reduceCtorEq, ↓reduceIte, Int.reduceLT, Int.reduceLE, Int.reduceEq, Int.reduceNe]
    refine s_idx hA3 (by omega) (by omega) ?_
    simp -implicitDefEqProofs only [go_sem, Nat.reduceBEq, Nat.reduceAdd, Nat.reduceSub, Nat.reduceMul, Nat.reduceLeDiff, reduceCtorEq, ↓reduceIte, Int.reduceLT, Int.reduceLE, Int.reduceEq, Int.reduceNe]
    refine s_ld0 (hc5 _ (hmg [gk, gx])) (by simp) (by simp) ?_
    simp -implicitDefEqProofs only [go_sem, Nat.reduceBEq, Nat.reduceAdd, Nat.reduceSub, Nat.reduceMul, Nat.reduceLeDiff, reduceCtorEq, ↓reduceIte, Int.reduceLT, Int.reduceLE, Int.reduceEq, Int.reduceNe]
    refine s_idx hAr (by omega) (by omega) ?_
    simp -implicitDefEqProofs only [go_sem, Nat.reduceBEq, Nat.reduceAdd, Nat.reduceSub, Nat.reduceMul, Nat.reduceLeDiff, reduceCtorEq, ↓reduceIte, Int.reduceLT, Int.reduceLE, Int.reduceEq, Int.reduceNe]
    refine s_ld0 (hc6 _ (hmr [gk, gx])) (by simp) (by simp) ?_
    simp -implicitDefEqProofs only [go_sem, Nat.reduceBEq, Nat.reduceAdd, Nat.reduceSub, Nat.reduceMul, Nat.reduceLeDiff, reduceCtorEq, ↓reduceIte, Int.reduceLT, Int.reduceLE, Int.reduceEq, Int.reduceNe]
    have hw1 : IntKind.i64.wrap ((i : Int) + 1) = ((i + 1 : Nat) : Int) := by rw [wrap_id (by omega) (by omega)]; omega
    rw [hw1]
    refine s_lo (i + 1) (by simp -implicitDefEqProofs only [go_sem, Nat.reduceBEq, Nat.reduceAdd, Nat.reduceSub, Nat.reduceMul, Nat.reduceLeDiff, reduceCtorEq, ↓reduceIte, Int.reduceLT, Int.reduceLE, Int.reduceEq, Int.reduceNe]; exact ⟨_, rfl⟩) (by omega) (hw.cap) ?_
    intro A8 hA8
    have hS8 := hw.drop (l := i + 1) (by omega)
    rw [show (if cw = i + 1 then W else W.map (·.add ((i + 1) * Rep.sz Int))) = A8 from hA8.symm] at hS8
    simp -implicitDefEqProofs only [go_sem, Nat.reduceBEq, Nat.reduceAdd, Nat.reduceSub, Nat.reduceMul, Nat.reduceLeDiff, reduceCtorEq, ↓reduceIte, Int.reduceLT, Int.reduceLE, Int.reduceEq, Int.reduceNe]
    refine s_ld (j := 3) (cells_lk ⟨gt, by simp, hgt⟩) (by simp) (by simp) ?_
    simp -implicitDefEqProofs only [go_sem, Nat.reduceBEq, Nat.reduceAdd, Nat.reduceSub, Nat.reduceMul, Nat.reduceLeDiff, reduceCtorEq, ↓reduceIte, Int.reduceLT, Int.reduceLE, Int.reduceEq, Int.reduceNe]
    refine s_idx hAr7 (by omega) (by omega) ?_
    simp -implicitDefEqProofs only [go_sem, Nat.reduceBEq, Nat.reduceAdd, Nat.reduceSub, Nat.reduceMul, Nat.reduceLeDiff, reduceCtorEq, ↓reduceIte, Int.reduceLT, Int.reduceLE, Int.reduceEq, Int.reduceNe]
    refine s_ld0 (by simpa using hc7 _ (hmr [])) (by simp) (by simp) ?_
    simp -implicitDefEqProofs only [go_sem, Nat.reduceBEq, Nat.reduceAdd, Nat.reduceSub, Nat.reduceMul, Nat.reduceLeDiff, reduceCtorEq, ↓reduceIte, Int.reduceLT, Int.reduceLE, Int.reduceEq, Int.reduceNe]
    refine s_lo i (by simp -implicitDefEqProofs only [go_sem, Nat.reduceBEq, Nat.reduceAdd, Nat.reduceSub, Nat.reduceMul, Nat.reduceLeDiff, reduceCtorEq, ↓reduceIte, Int.reduceLT, Int.reduceLE, Int.reduceEq, Int.reduceNe]; exact ⟨_, rfl⟩) (by omega) (hw.cap) ?_
    intro A9 hA9
    have hS9 := hw.drop (l := i) (by omega)
    rw [show (if cw = i then W else W.map (·.add (i * Rep.sz Int))) = A9 from hA9.symm] at hS9
    simp -implicitDefEqProofs only [go_sem, Nat.reduceBEq, Nat.reduceAdd, Nat.reduceSub, Nat.reduceMul, Nat.reduceLeDiff, reduceCtorEq, ↓reduceIte, Int.reduceLT, Int.reduceLE, Int.reduceEq, Int.reduceNe]
    refine s_appS (α := Int) (ix := 1) (xs := []) (L := lk []) rfl (Bld.nil gx _ _) (hr6.mono (hmr [gk, gx])) rfl (Mem.le.refl _) rfl (by simp; omega) (by simp; unfold maxLen; omega) ?_
    intro v1 g1 hB11 _
    rw [List.nil_append] at hB11
    obtain ⟨A11, c11, rfl⟩ := hB11.val
    simp -implicitDefEqProofs only [go_sem, Nat.reduceBEq, Nat.reduceAdd, Nat.reduceSub, Nat.reduceMul, Nat.reduceLeDiff, reduceCtorEq, ↓reduceIte, Int.reduceLT, Int.reduceLE, Int.reduceEq, Int.reduceNe]
    refine s_appS (α := Int) (ix := 1) (ys := w.drop (i + 1)) (L := lk []) rfl hB11 (hS8.mono (hmw [gk, g1])) (by simp) (Mem.le.refl _) rfl (by simp; omega) (by simp; unfold maxLen; omega) ?_
    intro v2 g2 hB12 _
    have hl12 : (v ++ w.drop (i + 1)).length ≤ 4000 := by simp; omega
    obtain ⟨A12, c12, rfl, hS12⟩ := hB12.slok (L' := lk [g2]) (Mem.le.refl _) (fun b o ⟨x, hx, _⟩ => by cases hx) (by omega)
    simp -implicitDefEqProofs only [go_sem, Nat.reduceBEq, Nat.reduceAdd, Nat.reduceSub, Nat.reduceMul, Nat.reduceLeDiff, reduceCtorEq, ↓reduceIte, Int.reduceLT, Int.reduceLE, Int.reduceEq, Int.reduceNe]
    refine CallVC.head (learn_ask (Γr := [g2] ++ (gt :: gr :: gl :: ge :: gf :: gg :: Γr)) ⟨gt, by simp, hgt⟩ (hm.mono (hmw [g2])) hK hk.2 (hS12.mono (lk_sub fun g hg => by simp at hg; subst hg; simp)) (okK_app.2 ⟨hvrok.1, hdk1⟩) (by omega)) (List.Sublist.refl _) ?_
    rintro vv Γ' ⟨gk1, rfl, hK1, rfl⟩
    simp -implicitDefEqProofs only [go_sem, Nat.reduceBEq, Nat.reduceAdd, Nat.reduceSub, Nat.reduceMul, Nat.reduceLeDiff, reduceCtorEq, ↓reduceIte, Int.reduceLT, Int.reduceLE, Int.reduceEq, Int.reduceNe]
    refine s_appS (α := Int) (ix := 1) (xs := []) (L := lk []) rfl (Bld.nil g2 _ _) (hr7.mono (hmr [gk1, g2])) rfl (Mem.le.refl _) rfl (by simp; omega) (by simp; unfold maxLen; omega) ?_
    intro v3 g3 hB13 _
    rw [List.nil_append] at hB13
    obtain ⟨A13, c13, rfl⟩ := hB13.val
    simp -implicitDefEqProofs only [go_sem, Nat.reduceBEq, Nat.reduceAdd, Nat.reduceSub, Nat.reduceMul, Nat.reduceLeDiff, reduceCtorEq, ↓reduceIte, Int.reduceLT, Int.reduceLE, Int.reduceEq, Int.reduceNe]
    refine s_appS (α := Int) (ix := 1) (ys := w.drop i) (L := lk []) rfl hB13 (hS9.mono (hmw [gk1, g3])) (by simp) (Mem.le.refl _) rfl (by simp; omega) (by simp; unfold maxLen; omega) ?_
    intro v4 g4 hB14 _
    have hl14 : (u ++ w.drop i).length ≤ 4000 := by simp; omega
    obtain ⟨A14, c14, rfl, hS14⟩ := hB14.slok (L' := lk [g4]) (Mem.le.refl _) (fun b o ⟨x, hx, _⟩ => by cases hx) (by omega)
    simp -implicitDefEqProofs only [go_sem, Nat.reduceBEq, Nat.reduceAdd, Nat.reduceSub, Nat.reduceMul, Nat.reduceLeDiff, reduceCtorEq, ↓reduceIte, Int.reduceLT, Int.reduceLE, Int.reduceEq, Int.reduceNe]
    refine CallVC.head (learn_ask (Γr := [g4] ++ (gt :: gr :: gl :: ge :: gf :: gg :: Γr)) ⟨gt, by simp, hgt⟩ (hm.mono (hmw [g4])) hK1 hk.2 (hS14.mono (lk_sub fun g hg => by simp at hg; subst hg; simp)) (okK_app.2 ⟨hurok.1, hdk⟩) (by omega)) (List.Sublist.refl _) ?_
    rintro vv Γ' ⟨gk2, rfl, hK2, rfl⟩
    simp -implicitDefEqProofs only [go_sem, Nat.reduceBEq, Nat.reduceAdd, Nat.reduceSub, Nat.reduceMul, Nat.reduceLeDiff, reduceCtorEq, ↓reduceIte, Int.reduceLT, Int.reduceLE, Int.reduceEq, Int.reduceNe]
    rw [hL]
    by_cases hq : L (v ++ w.drop (i + 1)) = L w
    · rw [hq]
      simp only [beq_self_eq_true, Bool.not_true, bne_self_eq_false, Bool.true_bne, Bool.bne_true]
      refine ⟨fun h => (by cases h), ?_⟩
      try intro _
      refine s_idx hB1 (by omega) (by omega) ?_
      simp -implicitDefEqProofs only [go_sem, Nat.reduceBEq, Nat.reduceAdd, Nat.reduceSub, Nat.reduceMul, Nat.reduceLeDiff, reduceCtorEq, ↓reduceIte, Int.reduceLT, Int.reduceLE, Int.reduceEq, Int.reduceNe]
      refine s_ld0 (hc3 _ (lk_sub fun g hg => by simp at hg; subst hg; simp)) (by simp) (by simp) ?_
      simp -implicitDefEqProofs only [go_sem, Nat.reduceBEq, Nat.reduceAdd, Nat.reduceSub, Nat.reduceMul, Nat.reduceLeDiff, reduceCtorEq, ↓reduceIte, Int.reduceLT, Int.reduceLE, Int.reduceEq, Int.reduceNe]
      refine s_idx hA3 (by omega) (by omega) ?_
      simp -implicitDefEqProofs only [go_sem, Nat.reduceBEq, Nat.reduceAdd, Nat.reduceSub, Nat.reduceMul, Nat.reduceLeDiff, reduceCtorEq, ↓reduceIte, Int.reduceLT, Int.reduceLE, Int.reduceEq, Int.reduceNe]
      refine s_ld0 (hc5 _ (lk_sub fun g hg => by simp at hg; subst hg; simp)) (by simp) (by simp) ?_
      simp -implicitDefEqProofs only [go_sem, Nat.reduceBEq, Nat.reduceAdd, Nat.reduceSub, Nat.reduceMul, Nat.reduceLeDiff, reduceCtorEq, ↓reduceIte, Int.reduceLT, Int.reduceLE, Int.reduceEq, Int.reduceNe]
      simp (disch := omega) only [wrap_id]
      have hs' : j = goN g 0 (w.take (i + 1)) := by rw [List.take_succ_eq_append_getElem hi, goN_snoc, ← hs, hxx]; exact hj
      exact ⟨f - 1, by omega, Up.here ⟨i + 1, j, v, gk2, g4, rfl, by omega, rfl, hK2, hs', hv, hq⟩⟩
    · have hq2 : (L (v ++ w.drop (i + 1)) == L w) = false := by simpa using hq
      simp only [hq2]
      refine ⟨fun _ => ?_, fun h => absurd h hq⟩
      refine ⟨[gk2, g4, gt, gr, gl, ge, gf, gg], [], fun ψ Γ' => ψ = [] ∧ ∃ (gt' ge' gx' : PH) (Ae' : Option Addr) (ce' : Nat), Γ' = [gk2, gx', gt', gr, gl, ge', gf, gg] ∧ gt' t = some (.cells [.int .i64 (k : Int), fv, .map (some bk), .slice Ar rows.length cr, .slice Ae' (ends ++ [w.drop (i + 1)]).length ce'].toArray 198 (0, 0)) ∧
        Bld ge' (lk [gf, gx']) 29 (.slice Ae' (ends ++ [w.drop (i + 1)]).length ce') (ends ++ [w.drop (i + 1)]), Ent.refl _, ?_, ?_⟩
      · simp -implicitDefEqProofs only [go_sem, Nat.reduceBEq, Nat.reduceAdd, Nat.reduceSub, Nat.reduceMul, Nat.reduceLeDiff, reduceCtorEq, ↓reduceIte, Int.reduceLT, Int.reduceLE, Int.reduceEq, Int.reduceNe]
        rw [hw1]
        refine s_lo (i + 1) (by simp -implicitDefEqProofs only [go_sem, Nat.reduceBEq, Nat.reduceAdd, Nat.reduceSub, Nat.reduceMul, Nat.reduceLeDiff, reduceCtorEq, ↓reduceIte, Int.reduceLT, Int.reduceLE, Int.reduceEq, Int.reduceNe]; exact ⟨_, rfl⟩) (by omega) (hw.cap) ?_
        intro A18 hA18
        have hA18' : A18 = A8 := by rw [hA18, hA8]
        subst hA18'
        simp -implicitDefEqProofs only [go_sem, Nat.reduceBEq, Nat.reduceAdd, Nat.reduceSub, Nat.reduceMul, Nat.reduceLeDiff, reduceCtorEq, ↓reduceIte, Int.reduceLT, Int.reduceLE, Int.reduceEq, Int.reduceNe]
        have hdl : (w.drop (i + 1)).length = w.length - (i + 1) := by simp
        repeat' first
          | with_reducible exact True.intro
          | with_reducible refine And.intro ?_ ?_
          | with_reducible intro bk
          | (refine s_ld (j := 4) (cells_lk ⟨gt, by simp, hgt⟩) (by simp) (by simp) ?_)
          | (refine s_appS (α := Int) (ix := 1) (xs := []) (ys := w.drop (i + 1)) (L := lk []) rfl (Bld.nil g4 _ _) (hS8.mono (lk_sub fun g hg => by simp [hg])) (by simp) (Mem.le.refl _) rfl (by simp; omega) (by simp; unfold maxLen; omega) ?_; intro vi gi hBi hKi; rw [List.nil_append] at hBi; obtain ⟨Ai, ci, rfl, hSi⟩ := hBi.slok (L' := lk [gi]) (Mem.le.refl _) (fun b o ⟨x, hx, _⟩ => by cases hx) (by simp; omega))
          | (refine s_app1 (ix := 6) (x := w.drop (i + 1)) (L' := lk [gf, gi]) rfl hBe (lk_sub (by simp)) (mk_list (hSi.mono (lk_sub (by simp)))) cells_one rfl (by omega) (by unfold maxLen; omega) ?_; intro vo ge' hBo _; obtain ⟨Ao, co, rfl⟩ := hBo.val)
          | (refine s_storeF (ix := 3) (o := 4) (n := 1) rfl hgt (by simp) ?_)
          | simp -implicitDefEqProofs only [go_sem, Nat.reduceBEq, Nat.reduceAdd, Nat.reduceSub, Nat.reduceMul, Nat.reduceLeDiff, reduceCtorEq, ↓reduceIte, Int.reduceLT, Int.reduceLE, Int.reduceEq, Int.reduceNe]
        all_goals exact Up.skip (Up.here ⟨_, _, _, _, _, rfl, upd_self _ _ _, hBo⟩)
      · rintro ψ Γ' ⟨rfl, gt', ge', gx', Ae', ce', rfl, hgt', hBe'⟩
        simp -implicitDefEqProofs only [go_sem, Nat.reduceBEq, Nat.reduceAdd, Nat.reduceSub, Nat.reduceMul, Nat.reduceLeDiff, reduceCtorEq, ↓reduceIte, Int.reduceLT, Int.reduceLE, Int.reduceEq, Int.reduceNe]
        refine Up.sel [[0], [2], [3], [4], [5], [6, 1]] (by decide) fun _ hm2 => ?_
        subst hR
        have hek : okK k (w.drop (i + 1)) := hdk1
        have hT' := hT.split hek (by simp; omega)
        refine ⟨w.drop (i + 1), ⟨_, _, _, _, _, _, Ar, Ae', cr, ce', rfl, hgt', hBr, hBe'.mono (Mem.le.refl _) (hm2 [6, 1] (by simp)), hK2⟩, hT', hT.opens hu hxk hv hvm ?_⟩
        intro e
        apply hq
        rw [e, ← hd0]
        exact hL
  · have hi : i = w.length := by omega
    rw [hi, List.take_length] at hs
    rw [hi, List.drop_length, List.append_nil] at hL
    exfalso
    refine hg (G.agree hT hwok fun v hv => ?_)
    rw [← hs, hu] at hv
    cases hv
    exact hL
end Go.Proofs.Ytniobbepliknmaa.V
/- The text of parlance/learn.Of as a statement (slots: 0 symbols, 1 member, 2 equal, 3 symbols, 4 member, 5 equal, 8 t, 9 d, 10 e, 11 ok, 12 w, 13 _, 14 x); no condition. -/
namespace Go.Proofs.Ytniobbepliknmaa.V
open Go
def S85_1 : Stmt :=
  Stmt.seq
  (Stmt.region [SOper.mk (some 61) none (SOp.ibin BinOp.lss (Operand.tmp 60) (Operand.tmp 59))]
    [0, 2, 6, 8, 9, 12, 58, 59, 60, 61])
  (Stmt.seq (Stmt.cond (Operand.tmp 61) Stmt.skip (Stmt.exit 2))
    (Stmt.seq
      (Stmt.block 3
        (Stmt.seq
          (Stmt.region
            [SOper.mk (some 62) none (SOp.idx 1 (Operand.tmp 58) (Operand.tmp 60)),
              SOper.mk (some 63) none (SOp.load false 1 (Operand.tmp 62)),
              SOper.mk (some 14) none (SOp.mv (Operand.tmp 63))]
            [0, 2, 6, 8, 9, 12, 14, 58, 59, 60])
          (Stmt.seq
            (Stmt.region
              [SOper.mk (some 64) none (SOp.mv (Operand.tmp 14)),
                SOper.mk (some 65) none (SOp.ibin BinOp.lss (Operand.tmp 64) (Operand.const (Value.int IntKind.i64 0))),
                SOper.mk (some 66) none (SOp.mv (Operand.tmp 65)),
                SOper.mk (some 67) (some (66, false)) (SOp.mv (Operand.tmp 14)),
                SOper.mk (some 68) (some (66, false)) (SOp.mv (Operand.tmp 0)),
                SOper.mk (some 69) (some (66, false)) (SOp.ibin BinOp.geq (Operand.tmp 67) (Operand.tmp 68)),
                SOper.mk (some 70) none (SOp.pick (Operand.tmp 66) (Operand.const (Value.bool true)) (Operand.tmp 69))]
              [0, 2, 6, 8, 9, 12, 58, 59, 60, 70])
            (Stmt.cond (Operand.tmp 70)
              (Stmt.seq
                (Stmt.region
                  [SOper.mk (some 71) none
                      (SOp.build 67 [Value.int IntKind.i64 0, Value.slice none 0 0, Value.slice none 0 0] []),
                    SOper.mk none none (SOp.store 3 (Operand.tmp 6) (Operand.tmp 71)),
                    SOper.mk (some 7) none (SOp.mv (Operand.const (Value.int IntKind.i64 1)))]
                  [6, 7])
                Stmt.ret)
              Stmt.skip))))
      (Stmt.region
        [SOper.mk (some 72) none (SOp.ibin BinOp.add (Operand.tmp 60) (Operand.const (Value.int IntKind.i64 1))),
          SOper.mk (some 60) none (SOp.mv (Operand.tmp 72))]
        [0, 2, 6, 8, 9, 12, 58, 59, 60])))
def S85_2 : Stmt :=
  Stmt.block 1
  (Stmt.seq
    (Stmt.seq
      (Stmt.region
        [SOper.mk (some 29) none (SOp.mv (Operand.tmp 8)),
          SOper.mk (some 30) none (SOp.call (Operand.func 155) [Operand.tmp 29]),
          SOper.mk (some 31) none (SOp.un UnOp.not (Operand.tmp 30))]
        [0, 2, 6, 8, 31])
      (Stmt.cond (Operand.tmp 31)
        (Stmt.seq
          (Stmt.region
            [SOper.mk (some 32) none
                (SOp.build 67 [Value.int IntKind.i64 0, Value.slice none 0 0, Value.slice none 0 0] []),
              SOper.mk none none (SOp.store 3 (Operand.tmp 6) (Operand.tmp 32)),
              SOper.mk (some 7) none (SOp.mv (Operand.const (Value.int IntKind.i64 2)))]
            [6, 7])
          Stmt.ret)
        Stmt.skip))
    (Stmt.seq
      (Stmt.region
        [SOper.mk (some 34) none (SOp.mv (Operand.tmp 8)),
          SOper.mk (some 35) none (SOp.call (Operand.func 156) [Operand.tmp 34]),
          SOper.mk (some 36) none (SOp.call (Operand.func 97) [Operand.tmp 35]),
          SOper.mk (some 33) none (SOp.mv (Operand.tmp 36)), SOper.mk (some 37) none (SOp.extract 0 (Operand.tmp 33)),
          SOper.mk (some 38) none (SOp.extract 1 (Operand.tmp 33)),
          SOper.mk (some 9) none
            (SOp.alloc true 67
              (Value.agg (Array.mk [Value.int IntKind.i64 0, Value.slice none 0 0, Value.slice none 0 0]))),
          SOper.mk none none (SOp.store 3 (Operand.tmp 9) (Operand.tmp 37)),
          SOper.mk (some 10) none (SOp.mv (Operand.tmp 38))]
        [0, 2, 6, 8, 9, 10])
      (Stmt.seq
        (Stmt.seq
          (Stmt.region
            [SOper.mk (some 39) none (SOp.mv (Operand.tmp 10)),
              SOper.mk (some 40) none (SOp.ibin BinOp.neq (Operand.tmp 39) (Operand.const (Value.int IntKind.i64 0)))]
            [0, 2, 6, 8, 9, 10, 40])
          (Stmt.cond (Operand.tmp 40)
            (Stmt.seq
              (Stmt.region
                [SOper.mk (some 41) none
                    (SOp.build 67 [Value.int IntKind.i64 0, Value.slice none 0 0, Value.slice none 0 0] []),
                  SOper.mk (some 42) none (SOp.mv (Operand.tmp 10)),
                  SOper.mk none none (SOp.store 3 (Operand.tmp 6) (Operand.tmp 41)),
                  SOper.mk (some 7) none (SOp.mv (Operand.tmp 42))]
                [6, 7])
              Stmt.ret)
            Stmt.skip))
        (Stmt.seq
          (Stmt.region
            [SOper.mk (some 44) none (SOp.mv (Operand.tmp 2)),
              SOper.mk (some 45) none (SOp.load true 3 (Operand.tmp 9)),
              SOper.mk (some 46) none (SOp.call (Operand.func 157) [Operand.tmp 45]),
              SOper.mk (some 47) none (SOp.call (Operand.tmp 44) [Operand.tmp 46]),
              SOper.mk (some 43) none (SOp.mv (Operand.tmp 47)),
              SOper.mk (some 48) none (SOp.extract 0 (Operand.tmp 43)),
              SOper.mk (some 49) none (SOp.extract 1 (Operand.tmp 43)),
              SOper.mk (some 11) none (SOp.mv (Operand.tmp 48)), SOper.mk (some 12) none (SOp.mv (Operand.tmp 49))]
            [0, 2, 6, 8, 9, 11, 12])
          (Stmt.seq
            (Stmt.seq (Stmt.region [SOper.mk (some 50) none (SOp.mv (Operand.tmp 11))] [0, 2, 6, 8, 9, 12, 50])
              (Stmt.cond (Operand.tmp 50)
                (Stmt.seq
                  (Stmt.region
                    [SOper.mk (some 51) none (SOp.load true 3 (Operand.tmp 9)),
                      SOper.mk none none (SOp.store 3 (Operand.tmp 6) (Operand.tmp 51)),
                      SOper.mk (some 7) none (SOp.mv (Operand.const (Value.int IntKind.i64 0)))]
                    [6, 7])
                  Stmt.ret)
                Stmt.skip))
            (Stmt.seq
              (Stmt.region
                [SOper.mk (some 52) none (SOp.mv (Operand.tmp 12)),
                  SOper.mk (some 53) none
                    (SOp.append 29 3 1 8 (Value.int IntKind.i64 0) (Operand.const (Value.slice none 0 0))
                      (Operand.tmp 52)),
                  SOper.mk (some 12) none (SOp.mv (Operand.tmp 53))]
                [0, 2, 6, 8, 9, 12])
              (Stmt.seq
                (Stmt.seq
                  (Stmt.region
                    [SOper.mk (some 54) none (SOp.mv (Operand.tmp 12)),
                      SOper.mk (some 55) none (SOp.len false (Operand.tmp 54)),
                      SOper.mk (some 56) none
                        (SOp.ibin BinOp.gtr (Operand.tmp 55) (Operand.const (Value.int IntKind.i64 2000)))]
                    [0, 2, 6, 8, 9, 12, 56])
                  (Stmt.cond (Operand.tmp 56)
                    (Stmt.seq
                      (Stmt.region
                        [SOper.mk (some 57) none
                            (SOp.build 67 [Value.int IntKind.i64 0, Value.slice none 0 0, Value.slice none 0 0] []),
                          SOper.mk none none (SOp.store 3 (Operand.tmp 6) (Operand.tmp 57)),
                          SOper.mk (some 7) none (SOp.mv (Operand.const (Value.int IntKind.i64 2)))]
                        [6, 7])
                      Stmt.ret)
                    Stmt.skip))
                (Stmt.seq
                  (Stmt.seq
                    (Stmt.region
                      [SOper.mk (some 58) none (SOp.mv (Operand.tmp 12)),
                        SOper.mk (some 59) none (SOp.len false (Operand.tmp 58)),
                        SOper.mk (some 60) none (SOp.mv (Operand.const (Value.int IntKind.i64 0)))]
                      [0, 2, 6, 8, 9, 12, 58, 59, 60])
                    (Stmt.block 2 (Stmt.loop S85_1 [6, 60] [0, 2, 8, 9, 12, 58, 59])))
                  (Stmt.seq
                    (Stmt.seq
                      (Stmt.region
                        [SOper.mk (some 73) none (SOp.load true 3 (Operand.tmp 9)),
                          SOper.mk (some 74) none (SOp.mv (Operand.tmp 12)),
                          SOper.mk (some 75) none (SOp.call (Operand.func 158) [Operand.tmp 73, Operand.tmp 74]),
                          SOper.mk (some 76) none (SOp.mv (Operand.tmp 8)),
                          SOper.mk (some 77) none (SOp.mv (Operand.tmp 12)),
                          SOper.mk (some 78) none (SOp.call (Operand.func 159) [Operand.tmp 76, Operand.tmp 77]),
                          SOper.mk (some 79) none (SOp.beq false (Operand.tmp 75) (Operand.tmp 78))]
                        [0, 2, 6, 8, 12, 79])
                      (Stmt.cond (Operand.tmp 79)
                        (Stmt.seq
                          (Stmt.region
                            [SOper.mk (some 80) none
                                (SOp.build 67 [Value.int IntKind.i64 0, Value.slice none 0 0, Value.slice none 0 0] []),
                              SOper.mk none none (SOp.store 3 (Operand.tmp 6) (Operand.tmp 80)),
                              SOper.mk (some 7) none (SOp.mv (Operand.const (Value.int IntKind.i64 7)))]
                            [6, 7])
                          Stmt.ret)
                        Stmt.skip))
                    (Stmt.region
                      [SOper.mk (some 81) none (SOp.mv (Operand.tmp 8)),
                        SOper.mk (some 82) none (SOp.mv (Operand.tmp 12)),
                        SOper.mk (some 83) none (SOp.call (Operand.func 160) [Operand.tmp 81, Operand.tmp 82])]
                      [0, 2, 6, 8]))))))))))
def S85_0 : Stmt :=
  Stmt.seq
  (Stmt.region
    [SOper.mk (some 6) none
        (SOp.alloc true 67
          (Value.agg (Array.mk [Value.int IntKind.i64 0, Value.slice none 0 0, Value.slice none 0 0]))),
      SOper.mk (some 7) none (SOp.mv (Operand.const (Value.int IntKind.i64 0)))]
    [0, 1, 2, 6])
  (Stmt.seq
    (Stmt.seq
      (Stmt.region
        [SOper.mk (some 15) none (SOp.mv (Operand.tmp 0)),
          SOper.mk (some 16) none (SOp.ibin BinOp.lss (Operand.tmp 15) (Operand.const (Value.int IntKind.i64 1))),
          SOper.mk (some 17) none (SOp.mv (Operand.tmp 16)),
          SOper.mk (some 18) (some (17, false)) (SOp.mv (Operand.tmp 0)),
          SOper.mk (some 19) (some (17, false))
            (SOp.ibin BinOp.gtr (Operand.tmp 18) (Operand.const (Value.int IntKind.i64 16))),
          SOper.mk (some 20) none (SOp.pick (Operand.tmp 17) (Operand.const (Value.bool true)) (Operand.tmp 19))]
        [0, 1, 2, 6, 20])
      (Stmt.cond (Operand.tmp 20)
        (Stmt.seq
          (Stmt.region
            [SOper.mk (some 21) none
                (SOp.build 67 [Value.int IntKind.i64 0, Value.slice none 0 0, Value.slice none 0 0] []),
              SOper.mk none none (SOp.store 3 (Operand.tmp 6) (Operand.tmp 21)),
              SOper.mk (some 7) none (SOp.mv (Operand.const (Value.int IntKind.i64 1)))]
            [6, 7])
          Stmt.ret)
        Stmt.skip))
    (Stmt.seq
      (Stmt.region
        [SOper.mk (some 22) none (SOp.mv (Operand.tmp 0)), SOper.mk (some 23) none (SOp.mv (Operand.tmp 1)),
          SOper.mk (some 24) none (SOp.n (Qk.mkmap 118) []),
          SOper.mk (some 25) none
            (SOp.buildS 29 1 [Value.slice none 0 0] [(0, 1, Operand.const (Value.slice none 0 0))]),
          SOper.mk (some 26) none
            (SOp.buildS 29 1 [Value.slice none 0 0] [(0, 1, Operand.const (Value.slice none 0 0))]),
          SOper.mk (some 27) none
            (SOp.build 198
              [Value.int IntKind.i64 0, Value.nilFunc, Value.map none, Value.slice none 0 0, Value.slice none 0 0]
              [(0, 1, Operand.tmp 22), (1, 1, Operand.tmp 23), (2, 1, Operand.tmp 24), (3, 1, Operand.tmp 25),
                (4, 1, Operand.tmp 26)]),
          SOper.mk (some 28) none (SOp.box false 198 (Operand.tmp 27)),
          SOper.mk (some 8) none (SOp.mv (Operand.tmp 28))]
        [0, 2, 6, 8])
      (Stmt.block 0 (Stmt.loop S85_2 [6] [0, 2, 8]))))
def S85 : FnS := ⟨84, [(6, some (true, 3)), (7, none)], S85_0⟩
theorem tr85 : trFn Try.prog 85 [6, 9] [[0, 1, 2, 6], [0, 1, 2, 6, 20], [6, 7], [0, 2, 6, 8], [6], [0, 2, 8], [0, 2, 6, 8, 31], [6, 7], [0, 2, 6, 8, 9, 10], [0, 2, 6, 8, 9, 10, 40], [6, 7], [0, 2, 6, 8, 9, 11, 12], [0, 2, 6, 8, 9, 12, 50], [6, 7], [0, 2, 6, 8, 9, 12], [0, 2, 6, 8, 9, 12, 56], [6, 7], [0, 2, 6, 8, 9, 12, 58, 59, 60], [6, 60], [0, 2, 8, 9, 12, 58, 59], [0, 2, 6, 8, 9, 12, 58, 59, 60, 61], [0, 2, 6, 8, 9, 12, 14, 58, 59, 60], [0, 2, 6, 8, 9, 12, 58, 59, 60, 70], [6, 7], [0, 2, 6, 8, 9, 12, 58, 59, 60], [0, 2, 6, 8, 12, 79], [6, 7], [0, 2, 6, 8]] = some S85 := by kernel_rfl
end Go.Proofs.Ytniobbepliknmaa.V
/- learn.Of walked; no condition. -/
namespace Go.Proofs.Ytniobbepliknmaa.V
open Go
set_option linter.unusedVariables false
set_option linter.unusedSimpArgs false
attribute [local go_sem] e_seq e_region e_quiet e_join e_loop e_cond e_block e_exit e_ret e_skip e_fin e_kseq e_snrm e_sret e_sex e_bnrm e_bret e_bex e_rnrm e_rret e_res e_condC e_nil e_g e_mv g_mv e_pick g_pick pickC_eq e_ibin g_ibin ibinC_eq e_sbin g_sbin e_beq g_beq beqC_eq e_nilq g_nilq nilqC_sl nilqC_pt nilqC_mp e_un g_un unC_not unC_neg e_conv g_conv convC_eq e_fld g_fld fldC_ref fldC_ptr e_nilCheck g_nilCheck nilCheckC_ref nilCheckC_ptr nilCheckC_fun e_field g_field fieldC_eq e_len g_len lenC_sl lenC_str e_extract g_extract extractC_eq e_mkFunc e_build g_build e_idiv g_idiv idivC_eq e_ishift g_ishift ishiftC_eq e_idx g_idx e_idxA g_idxA e_load g_load e_loadB g_loadB atB_ref atB_v g_mkFunc loadC_ref loadC_ptr loadB_eq e_slc g_slc e_box boxC_loc boxC_esc e_alloc allocC_loc allocC_esc e_buildS e_store storeC_ref storeC_ptr storeB_eq e_append e_appz e_mk mkC_eq e_call callC_eq e_fn g_fn fnC_eq fnV_min' fnV_max' fnV_rune' e_q g_q e_a e_n g_call g_box g_alloc g_buildS g_store g_append g_mk g_a g_n g_dead e_dead e_callK e_drawn e_tree e_finJ e_tk e_tfin e_tno e_nbt_q e_nbt_qn e_nbt_a e_nbt_an e_nbt_fin e_drawnB e_bxb_nil e_bxb e_stB_none e_stB_some boxSt_store bs_mv bs_pick bs_ibin bs_idiv bs_ishift bs_sbin bs_beq bs_nilq bs_un bs_conv bs_box bs_alloc bs_build bs_buildS bs_load bs_fld bs_nilCheck bs_idx bs_idxA bs_field bs_slc bs_len bs_append bs_appz bs_mk bs_call bs_extract bs_mkFunc bs_fn bs_q bs_a bs_n bs_loadB bs_dead isBox_box e_early_nil e_early_t e_early_f e_nob_nil e_nob_none e_nob_some isBox_dead isBox_v isBox_ref e_dnil e_dk e_ek e_finB vcOps_vc1 e_dcons e_tq e_ekt e_tearly e_talt e_dearly look_nil look_c proj_nil proj_c looks_nil looks_c zip_nil zip_c val_tmp val_const val_func slv_v slv_box slv_ref slot_tmp slot_const slot_func slotL_v slotL_box slotL_ref put_some put_none updBox_c boxSet_box gd_eq slotVals_nil slotVals_c slotVals_b boxV_box boxOn_box slotsOn_nil slotsOn_c slotsOn_b resV_one resV_two vals_nil vals_c allOn_nil allOn_c partOn_nil partOn_c partVals_nil partVals_c fits_nil fits_c fillL_nil fillL_c mkv_one mkv_agg cellsV_agg cellsV_int cellsV_bool cellsV_slice cellsV_string cellsV_pointer cellsV_func cellsV_nilf cellsV_map one'_nil one'_c oc_int oc_bool oc_slice oc_string oc_pointer oc_func oc_nilf oc_map setC_eq iv_add iv_sub iv_mul iv_eql iv_neq iv_lss iv_leq iv_gtr iv_geq iok_add iok_sub iok_mul iok_eql iok_neq iok_lss iok_leq iok_gtr iok_geq pickV_bool args0_nil args0_c bnd_none bnd_some imp_bt imp_bf imp_ebt imp_ebf imp_eb1 imp_np imp_pp beq_tt beq_tf beq_ft beq_ff cond_or cond_and e_round e_meet Int.le_refl Int.toNat_zero decide_true decide_false Bool.or_false Bool.false_or Bool.true_or Bool.or_true Bool.and_false Bool.false_and Bool.bne_false Bool.bne_true beq_iff_eq Int.cast_ofNat_Int not_false_eq_true not_true_eq_false false_and and_false false_implies true_implies true_and and_true Bool.true_and Bool.and_true Bool.not_true Bool.not_false forall_const implies_true List.take_zero List.drop_zero List.take_succ_cons List.drop_succ_cons List.take_nil List.drop_nil List.length_cons List.length_nil List.nil_append List.append_nil List.cons_append Int.toNat_natCast decide_eq_true_eq decide_eq_false_iff_not cond_true cond_false and_self List.getElem?_cons_zero List.getElem?_cons_succ List.set_cons_zero List.set_cons_succ Option.some.injEq exists_eq_left' Nat.zero_add Nat.add_zero Nat.mul_one imp_self true_or or_true or_false false_or Bool.or_eq_true Bool.or_eq_false_iff Bool.and_eq_true Bool.and_eq_false_iff Bool.not_eq_true' Bool.not_eq_false'

theorem MinS.len {d m : Da} (V : VD d) (h : MinS d m) : m.nx.length ≤ d.nx.length := by
  obtain ⟨R, h1, h2, h3, h4⟩ := h
  have I := h1.inv V
  rw [h2]
  rcases I.live with q | q
  · have hnd : (d.nx.length :: R).Nodup := by
      rw [List.nodup_cons]
      refine ⟨fun hq => q _ hq ((dead_eq V).1 (EqX.refl _ _)), ?_⟩
      rw [List.Nodup, List.pairwise_iff_getElem]
      intro i j hi hj hij e
      have := I.dif i j _ _ (List.getElem?_eq_getElem hi) (List.getElem?_eq_getElem hj) (by rw [e]; exact EqX.refl _ _)
      omega
    have := nodup_bound (d.nx.length + 1) _ hnd (fun x hx => by
      rcases List.mem_cons.1 hx with rfl | hx
      · omega
      · have := I.le x hx; omega)
    simp at this
    omega
  · have := V.len; omega
theorem VD.zero {d : Da} (V : VD d) : dfF d = 0 := by
  have h1 := V.len
  have h2 := V.acc
  have h3 := V.cols
  have h4 := V.st
  unfold dfF
  rw [if_neg (by omega), if_neg (by omega), if_neg (by omega), if_neg, if_neg]
  · rintro (h | h | ⟨x, hx, h⟩ | ⟨r, hr, x, hx, h⟩)
    · omega
    · omega
    · have := V.ac x hx; omega
    · have := V.to r hr x hx; omega
  · rintro ⟨r, hr, h⟩
    have := V.row r hr
    omega
theorem tl_acc {d : Da} (V : VD d) {w : List Int} (hw : okW d w) : decide (0 ≤ tlN d d.st.toNat w) = accP d (goD d d.st w) := by
  have hst := V.st
  have h := stI_go V (w := w) (s := d.st.toNat) (by omega) hw
  rw [stI_st V] at h
  rw [← h.1]
  have hac := V.acc
  unfold tlN fA stI accP accD
  by_cases q : goN d d.st.toNat w < d.nx.length
  · rw [if_pos q, getD_append_l (by omega), List.getD_eq_getElem?_getD, List.getElem?_eq_getElem (by omega)]
    simp [List.getD_eq_getElem?_getD, List.getElem?_eq_getElem (show goN d d.st.toNat w < d.ac.length by omega)]
  · rw [if_neg q]
    have e : goN d d.st.toNat w = d.ac.length := by omega
    rw [e, getD_append_at]
    simp
/-- an automaton that is asked about -/
def GoodM (L : List Int → Bool) (k N : Nat) (m : Da) : Prop := ∃ ends rows g, TabL L k ends rows ∧ GuessL L k ends rows g ∧ VD g ∧ MinS g m ∧ rows.length ≤ N
theorem GoodM.valid {L : List Int → Bool} {k N : Nat} {m : Da} (h : GoodM L k N m) : VD m ∧ colsD m = k ∧ m.nx.length ≤ N ∧ m.st = 0 := by
  obtain ⟨ends, rows, g, T, G, V, M, hb⟩ := h
  obtain ⟨h1, h2, _⟩ := M.valid V
  refine ⟨h1, by rw [h2, G.cols T], by have := M.len V; rw [G.len] at this; omega, ?_⟩
  obtain ⟨R, _, _, h3, _⟩ := M
  exact h3
/-- a function value that compares automata with a language -/
def EqOk (Γr : Ctx) (fv : Value) (k N : Nat) (rel : Da → Bool → List Int → Prop) : Prop := ∃ f c1 c2, fv = .func (.func f) c1 c2 ∧ ∀ (Γ : Ctx) (d : Da) (A B : Option Addr) (c e : Nat), Mem.le (lk Γr) (lk Γ) → SlOk (lk Γ) A c d.ac → SlOk (lk Γ) B e d.nx → VD d → colsD d = k → d.nx.length ≤ N → d.st = 0 →
  Ret Try.prog f (c1.toList ++ [.agg #[.int .i64 0, .slice A d.ac.length c, .slice B d.nx.length e]] ++ c2.toList) Γ [] (fun v Γ' => ∃ g b w W c, Γ' = [g] ∧ v = .tuple #[.bool b, .slice W w.length c] ∧ SlOk (lk (g :: Γ)) W c w ∧ w.length ≤ 2000000 ∧ rel d b w)
def zeroD : Da := ⟨0, [], []⟩
/-- what learn.Of returns -/
def OfS (L : List Int → Bool) (k N : Nat) (rel : Da → Bool → List Int → Prop) (r : Da) (e : Int) : Prop := (e = 0 ∧ GoodM L k N r ∧ ∃ w, rel r true w) ∨
  (r = zeroD ∧ ∃ m w, GoodM L k N m ∧ rel m false w ∧ ((e = 2 ∧ 2000 < w.length) ∨ (e = 1 ∧ w.length ≤ 2000 ∧ ¬ okK k w) ∨ (e = 7 ∧ w.length ≤ 2000 ∧ okK k w ∧ decide (0 ≤ tlN m 0 w) = L w)))
theorem learn_of_bad {Γr : Ctx} {s : Int} (h : s < 1 ∨ 16 < s) (mv ev : Value) : Ret Try.prog 85 [.int .i64 s, mv, ev] Γr [] (fun v Γ => Γ = [] ∧ v = .tuple #[.agg #[.int .i64 0, .slice none 0 0, .slice none 0 0], .int .i64 1]) := by
  generalize hR : (fun (v : Value) (Γ : Ctx) => Γ = [] ∧ v = _) = R
  refine ret_of_vc tr85 (Nat.le_of_ble_eq_true rfl) ?_
  simp -implicitDefEqProofs only [S85, S85_0, go_sem, Nat.reduceBEq, Nat.reduceAdd, Nat.reduceSub, Nat.reduceMul, Nat.reduceLeDiff, reduceCtorEq, ↓reduceIte, Int.reduceLT, Int.reduceLE, Int.reduceEq, Int.reduceNe]
  refine fun b => ⟨fun _ => Up.here ?_, fun h2 => by omega⟩
  subst hR
  exact ⟨rfl, rfl⟩
theorem learn_of {Γr : Ctx} {k N : Nat} (hk : 1 ≤ k ∧ k ≤ 16) {L : List Int → Bool} {mv ev : Value} {rel : Da → Bool → List Int → Prop} (hm : MemOk Γr mv k L) (he : EqOk Γr ev k N rel) (hN : ClsL L k N) (hN2 : N ≤ 200) :
    Ret Try.prog 85 [.int .i64 (k : Int), mv, ev] Γr [] (fun v Γ => ∃ g r e A B c d, Γ = [g] ∧ v = .tuple #[.agg #[.int .i64 0, .slice A r.ac.length c, .slice B r.nx.length d], .int .i64 e] ∧ SlOk (lk [g]) A c r.ac ∧ SlOk (lk [g]) B d r.nx ∧ OfS L k N rel r e) := by
  generalize hR : (fun (v : Value) (Γ : Ctx) => ∃ g r e A B c d, _) = R
  refine ret_of_vc tr85 (Nat.le_of_ble_eq_true rfl) ?_
  obtain ⟨ef, ec1, ec2, rfl, hcall⟩ := he
  obtain ⟨mf, mc1, mc2, rfl, hmc⟩ := hm
  have hm : MemOk Γr (.func (.func mf) mc1 mc2) k L := ⟨mf, mc1, mc2, rfl, hmc⟩
  simp -implicitDefEqProofs only [S85, S85_0, go_sem, Nat.reduceBEq, Nat.reduceAdd, Nat.reduceSub, Nat.reduceMul, Nat.reduceLeDiff, reduceCtorEq, ↓reduceIte, Int.reduceLT, Int.reduceLE, Int.reduceEq, Int.reduceNe]
  intro b6
  refine ⟨fun h => by omega, fun _ => ?_⟩
  refine s_mkmap fun bk => ?_
  simp -implicitDefEqProofs only [go_sem, Nat.reduceBEq, Nat.reduceAdd, Nat.reduceSub, Nat.reduceMul, Nat.reduceLeDiff, reduceCtorEq, ↓reduceIte, Int.reduceLT, Int.reduceLE, Int.reduceEq, Int.reduceNe]
  intro b7 b8 t
  refine s_loop (fun f vs Γ => ∃ (bb : Nat) (ends rows : List (List Int)), vs = [.box bb 67 [.int .i64 0, .slice none 0 0, .slice none 0 0]] ∧ TabW t bk k (.func (.func mf) mc1 mc2) L ends rows Γ ∧ TabL L k ends rows ∧ ends.length ≤ rows.length + 1 ∧
      ((f = N + 1 ∧ ends.length ≤ rows.length) ∨ (OpenL L k ends rows ∧ f + rows.length = N))) (N + 1)
    (Up.sel [[3], [0], [2], [], [1], []] (by decide) fun _ _ => ⟨b6, [[]], [[]], rfl, ⟨_, _, _, _, _, _, _, _, _, _, rfl, one_self _ _, ?_, ?_, ⟨[], MapM.new _ _ _ _, by simp⟩⟩, TabL.init L k, by simp, .inl ⟨rfl, by simp⟩⟩) ?_
  · exact lit_bld1 (α := List Int) (T := 29) (cs := [.slice none 0 0]) [] ⟨none, 0, rfl, SlOk.nil⟩
  · exact lit_bld1 (α := List Int) (T := 29) (cs := [.slice none 0 0]) [] ⟨none, 0, rfl, SlOk.nil⟩
  rintro f vs Γ0 ⟨bb, ends, rows0, rfl, hW, hT0, hel, hf⟩
  have hb0 := hT0.bound hN
  simp -implicitDefEqProofs only [S85_2, go_sem, Nat.reduceBEq, Nat.reduceAdd, Nat.reduceSub, Nat.reduceMul, Nat.reduceLeDiff, reduceCtorEq, ↓reduceIte, Int.reduceLT, Int.reduceLE, Int.reduceEq, Int.reduceNe]
  refine CallVC.perm (Γm := Γ0) (Γf := []) (learn_close (Γr := Γr) hm hk hN hN2 (by omega) hT0 hW) (by simp) (List.Sublist.refl _) ?_
  rintro v Γ1 ⟨rows, rfl, hW, hT, hpre, hC⟩
  have hb := hT.bound hN
  have hpl := hpre.length_le
  have hgrow : OpenL L k ends rows0 → rows0.length < rows.length := fun hO => closed_more hO hpre hC
  have hel2 : ends.length ≤ rows.length := by
    rcases hf with h | ⟨h, _⟩
    · omega
    · have := hgrow h; omega
  have hΓ1 : Γ1.length = 6 := by obtain ⟨gk, gt, gr, gl, ge, gf, Ar, Ae, cr, ce, rfl, _⟩ := hW; rfl
  simp -implicitDefEqProofs only [go_sem, Nat.reduceBEq, Nat.reduceAdd, Nat.reduceSub, Nat.reduceMul, Nat.reduceLeDiff, reduceCtorEq, ↓reduceIte, Int.reduceLT, Int.reduceLE, Int.reduceEq, Int.reduceNe]
  refine CallVC.perm (Γm := Γ1) (Γf := []) (learn_guess (Γr := Γr) hm hk (by omega) hT hC (by omega) hW) (by simp) (List.Sublist.refl _) ?_
  clear hW
  rintro v Γ' ⟨Γ2, gg, g, A1, c1, B1, e1, rfl, hW, rfl, hSA, hSB, G⟩
  have V := G.valid hT hk (by omega)
  have hgok : ∀ x ∈ g.ac, okI x := fun x hx => by
    rw [G.ac] at hx
    obtain ⟨w, _, rfl⟩ := List.mem_map.1 hx
    split
    · exact wf64 (by omega) (by omega)
    · exact wf64 (by omega) (by omega)
  have hgst := G.st
  simp -implicitDefEqProofs only [go_sem, Nat.reduceBEq, Nat.reduceAdd, Nat.reduceSub, Nat.reduceMul, Nat.reduceLeDiff, reduceCtorEq, ↓reduceIte, Int.reduceLT, Int.reduceLE, Int.reduceEq, Int.reduceNe]
  have hmin := mini_min (Γr := (gg :: Γ2) ++ Γr) (d := g) hgok (hSA.mono (lk_sub fun g hg => by simp at hg; subst hg; simp)) (hSB.mono (lk_sub fun g hg => by simp at hg; subst hg; simp))
  rw [hgst] at hmin
  refine CallVC.read hmin ?_
  rintro v Γ' (⟨h, _⟩ | ⟨_, gm, m, A2, c2, B2, e2, rfl, rfl, hS2, hS3, hM⟩)
  · exact absurd V.zero h
  have hGM : GoodM L k N m := ⟨ends, rows, g, hT, G, V, hM, hb⟩
  obtain ⟨Vm, hcm, hml, hmst⟩ := hGM.valid
  have hmo := Vm.acc
  simp -implicitDefEqProofs only [go_sem, Nat.reduceBEq, Nat.reduceAdd, Nat.reduceSub, Nat.reduceMul, Nat.reduceLeDiff, reduceCtorEq, ↓reduceIte, Int.reduceLT, Int.reduceLE, Int.reduceEq, Int.reduceNe]
  intro b9
  have hclo := learn_clone (Γr := (gm :: gg :: Γ2) ++ Γr) (d := m) (hS2.mono (lk_sub fun g hg => by simp at hg; subst hg; simp)) (hS3.mono (lk_sub fun g hg => by simp at hg; subst hg; simp)) (by omega) (by omega) (fun r hr => by have := Vm.row r hr; omega)
  rw [hmst] at hclo
  refine CallVC.read hclo ?_
  rintro v Γ' ⟨gc, A4, c4, B4, e4, rfl, rfl, hS4, hS5⟩
  simp -implicitDefEqProofs only [go_sem, Nat.reduceBEq, Nat.reduceAdd, Nat.reduceSub, Nat.reduceMul, Nat.reduceLeDiff, reduceCtorEq, ↓reduceIte, Int.reduceLT, Int.reduceLE, Int.reduceEq, Int.reduceNe]
  refine CallVC.read (hcall ((gc :: gm :: gg :: Γ2) ++ Γr) m A4 B4 c4 e4 (lk_r _ _) (hS4.mono (lk_sub fun g hg => by simp at hg; subst hg; simp)) (hS5.mono (lk_sub fun g hg => by simp at hg; subst hg; simp)) Vm hcm hml hmst) ?_
  rintro v Γ' ⟨gq, yes, w, W, cw, rfl, rfl, hSw, hwl, hrel⟩
  simp -implicitDefEqProofs only [go_sem, Nat.reduceBEq, Nat.reduceAdd, Nat.reduceSub, Nat.reduceMul, Nat.reduceLeDiff, reduceCtorEq, ↓reduceIte, Int.reduceLT, Int.reduceLE, Int.reduceEq, Int.reduceNe]
  refine ⟨fun hy => Up.sel [[2]] (by decide) fun _ _ => ?_, fun hy => ?_⟩
  · subst hR
    exact ⟨gm, m, 0, A2, B2, c2, e2, rfl, rfl, hS2, hS3, .inl ⟨rfl, hGM, w, by rw [hy] at hrel; exact hrel⟩⟩
  have hy : yes = false := by simpa using hy
  rw [hy] at hrel
  refine s_appS (α := Int) (ix := 1) (xs := []) (L := lk []) rfl (Bld.nil gc _ _) (hSw.mono (lk_sub fun g hg => by simp at hg ⊢; exact hg)) rfl (Mem.le.refl _) rfl (by simp; omega) (by simp; unfold maxLen; omega) ?_
  intro vw gc' hBw _
  rw [List.nil_append] at hBw
  obtain ⟨W2, cw2, rfl, hSw2⟩ := hBw.slok (L' := lk [gc']) (Mem.le.refl _) (fun b o ⟨x, hx, _⟩ => by cases hx) (by omega)
  clear hSw hS4 hS5
  have hz : ∀ x : Int, (∃ m w, GoodM L k N m ∧ rel m false w ∧ ((x = 2 ∧ 2000 < w.length) ∨ (x = 1 ∧ w.length ≤ 2000 ∧ ¬ okK k w) ∨ (x = 7 ∧ w.length ≤ 2000 ∧ okK k w ∧ decide (0 ≤ tlN m 0 w) = L w))) → R (.tuple #[.agg #[.int .i64 0, .slice none 0 0, .slice none 0 0], .int .i64 x]) [emp] := fun x hx => by
    subst hR
    exact ⟨emp, zeroD, x, none, none, 0, 0, rfl, rfl, SlOk.nil, SlOk.nil, .inr ⟨rfl, hx⟩⟩
  simp -implicitDefEqProofs only [go_sem, Nat.reduceBEq, Nat.reduceAdd, Nat.reduceSub, Nat.reduceMul, Nat.reduceLeDiff, reduceCtorEq, ↓reduceIte, Int.reduceLT, Int.reduceLE, Int.reduceEq, Int.reduceNe]
  refine ⟨fun h => Up.to _ (Ent.nil _ |>.trans (Ent.emp [])) (hz 2 ⟨m, w, hGM, hrel, .inl ⟨rfl, by omega⟩⟩), fun h => ?_⟩
  have hw2 : w.length ≤ 2000 := by omega
  refine s_loop (fun f vs Γ => ∃ (i bb : Nat), vs = [.box bb 67 [.int .i64 0, .slice none 0 0, .slice none 0 0], .v true (.int .i64 i)] ∧ i + f = w.length ∧ Γ = gq :: gc' :: gm :: gg :: Γ2 ∧ okK k (w.take i)) w.length
    (Up.here ⟨0, bb, rfl, by omega, rfl, by simp [okK]⟩) ?_
  rintro f2 vs Γ ⟨i, bb2, rfl, hif, rfl, hok⟩
  simp -implicitDefEqProofs only [S85_1, go_sem, Nat.reduceBEq, Nat.reduceAdd, Nat.reduceSub, Nat.reduceMul, Nat.reduceLeDiff, reduceCtorEq, ↓reduceIte, Int.reduceLT, Int.reduceLE, Int.reduceEq, Int.reduceNe]
  refine ⟨fun hlt => ?_, fun hge => ?_⟩
  · have hi : i < w.length := by omega
    obtain ⟨x, hx⟩ : ∃ x, x = w[i] := ⟨_, rfl⟩
    obtain ⟨b10, o10, hA10, hc10⟩ := hSw2.int hi
    rw [← hx] at hc10
    refine s_idx hA10 (by omega) (by omega) ?_
    simp -implicitDefEqProofs only [go_sem, Nat.reduceBEq, Nat.reduceAdd, Nat.reduceSub, Nat.reduceMul, Nat.reduceLeDiff, reduceCtorEq, ↓reduceIte, Int.reduceLT, Int.reduceLE, Int.reduceEq, Int.reduceNe]
    refine s_ld0 (hc10 _ (lk_sub fun g hg => by simp at hg; subst hg; simp)) (by simp) (by simp) ?_
    simp -implicitDefEqProofs only [go_sem, Nat.reduceBEq, Nat.reduceAdd, Nat.reduceSub, Nat.reduceMul, Nat.reduceLeDiff, reduceCtorEq, ↓reduceIte, Int.reduceLT, Int.reduceLE, Int.reduceEq, Int.reduceNe]
    refine ⟨fun h => Up.to _ (Ent.nil _ |>.trans (Ent.emp [])) (hz 1 ⟨m, w, hGM, hrel, .inr (.inl ⟨rfl, hw2, fun q => by have := q x (hx ▸ List.getElem_mem hi); omega⟩)⟩), fun h => ?_⟩
    · simp (disch := omega) only [wrap_id]
      refine ⟨f2 - 1, by omega, Up.here ⟨i + 1, bb2, rfl, by omega, rfl, ?_⟩⟩
      rw [List.take_succ_eq_append_getElem hi, ← hx]
      exact okK_app.2 ⟨hok, fun y hy => by simp at hy; subst hy; omega⟩
  have hi : i = w.length := by omega
  rw [hi, List.take_length] at hok
  have hokm : okW m w := by rw [okW, hcm]; exact hok
  have hacc := learn_accepts (Γr := (gq :: gc' :: gm :: gg :: Γ2) ++ Γr) Vm (hS2.mono (lk_sub fun g hg => by simp at hg; subst hg; simp)) (hS3.mono (lk_sub fun g hg => by simp at hg; subst hg; simp)) (hSw2.mono (lk_sub fun g hg => by simp at hg; subst hg; simp)) hokm
  rw [hmst] at hacc
  have hta := tl_acc Vm hokm
  rw [hmst] at hta
  rw [← hta] at hacc
  refine CallVC.read hacc ?_
  rintro v Γ' ⟨rfl, rfl⟩
  obtain ⟨gk, gt, gr, gl, ge, gf, Ar, Ae, cr, ce, rfl, hgt, hBr, hBe, hK⟩ := hW
  simp -implicitDefEqProofs only [go_sem, Nat.reduceBEq, Nat.reduceAdd, Nat.reduceSub, Nat.reduceMul, Nat.reduceLeDiff, reduceCtorEq, ↓reduceIte, Int.reduceLT, Int.reduceLE, Int.reduceEq, Int.reduceNe]
  refine CallVC.perm (Γm := [gk]) (Γf := [gq, gc', gm, gg, gt, gr, gl, ge, gf]) (learn_ask (Γr := [gq, gc', gm, gg, gt, gr, gl, ge, gf] ++ Γr) ⟨gt, by simp, hgt⟩ (hm.mono (lk_r _ _)) hK hk.2 (hSw2.mono (lk_sub fun g hg => by simp at hg; subst hg; simp)) hok (by omega)) (List.perm_middle (l₁ := [gq, gc', gm, gg])) (List.Sublist.refl _) ?_
  rintro v Γ' ⟨gk', rfl, hK', rfl⟩
  simp -implicitDefEqProofs only [go_sem, Nat.reduceBEq, Nat.reduceAdd, Nat.reduceSub, Nat.reduceMul, Nat.reduceLeDiff, reduceCtorEq, ↓reduceIte, Int.reduceLT, Int.reduceLE, Int.reduceEq, Int.reduceNe]
  refine ⟨fun h => Up.to _ (Ent.nil _ |>.trans (Ent.emp [])) (hz 7 ⟨m, w, hGM, hrel, .inr (.inr ⟨rfl, hw2, hok, by simpa using h⟩)⟩), fun h => ?_⟩
  have hmg : tlN m 0 w = tlN g 0 w := by
    have := (hM.valid V).2.2 w (by rw [okW, G.cols hT]; exact hok)
    rw [hgst] at this
    exact this
  have hr0l := (List.getElem?_eq_some_iff.1 hT.row0).1
  have hW : TabW t bk k (.func (.func mf) mc1 mc2) L ends rows [gk', gt, gr, gl, ge, gf] := ⟨gk', gt, gr, gl, ge, gf, Ar, Ae, cr, ce, rfl, hgt, hBr, hBe, hK'⟩
  refine CallVC.perm (Γm := [gk', gt, gr, gl, ge, gf]) (Γf := [gq, gc', gm, gg]) (learn_split (Γr := [gq, gc', gm, gg] ++ Γr) (hm.mono (lk_r _ _)) hk (by omega) hT hC (by omega) hW (hSw2.mono (lk_sub fun g hg => by simp at hg; subst hg; simp)) hok hw2 (fun g' G' => ?_)) ?_ (List.Sublist.refl _) ?_
  · rw [← G.same G' hT hr0l hok, ← hmg]
    simpa using h
  · exact List.Perm.cons _ (List.perm_append_comm (l₁ := [gq, gc', gm, gg]) (l₂ := [gt, gr, gl, ge, gf]))
  rintro v Γ3 ⟨e, hW', hT', hO'⟩
  simp -implicitDefEqProofs only [go_sem, Nat.reduceBEq, Nat.reduceAdd, Nat.reduceSub, Nat.reduceMul, Nat.reduceLeDiff, reduceCtorEq, ↓reduceIte, Int.reduceLT, Int.reduceLE, Int.reduceEq, Int.reduceNe]
  refine ⟨N - rows.length, ?_, ?_⟩
  · rcases hf with ⟨h1, _⟩ | ⟨hO, h1⟩
    · omega
    · have := hgrow hO; omega
  · refine Up.to Γ3 (Ent.sub (List.sublist_append_left _ _)) ⟨bb2, ends ++ [e], rows, rfl, hW', hT', by simp; omega, .inr ⟨hO', by omega⟩⟩
end Go.Proofs.Ytniobbepliknmaa.V
/- What is learnt of an automaton: its canonical form; no condition. -/
namespace Go.Proofs.Ytniobbepliknmaa.V
open Go
set_option linter.unusedVariables false
set_option linter.unusedSimpArgs false

theorem dif_short {x y : Da} (Vx : VD x) (Vy : VD y) (hc : colsD x = colsD y) {v : List Int} (hv : okW x v) (hd : Dif x y v) : ∃ w, okW x w ∧ Dif x y w ∧ w.length < x.nx.length + 1 + (y.nx.length + 1) := by
  obtain ⟨n, _, ⟨w, h1, h2, h3⟩, hl⟩ := least_natM (p := fun n => ∃ w, okW x w ∧ Dif x y w ∧ w.length = n) v.length ⟨v, hv, hd, rfl⟩
  refine ⟨w, h1, h2, shortest_short Vx Vy hc h1 h2 fun u hu hud => ?_⟩
  rcases Nat.lt_or_ge u.length w.length with q | q
  · exact absurd ⟨u, hu, hud, rfl⟩ (hl u.length (by omega))
  · exact q
theorem toldF_no {x y : Da} (Vx : VD x) (Vy : VD y) (hc : colsD x = colsD y) {w : List Int} (h : ToldF x y w false) : NoW x y := by
  rcases h with ⟨h, _⟩ | ⟨_, _, h⟩
  · cases h
  · intro v hv hd
    obtain ⟨u, h1, h2, h3⟩ := dif_short Vx Vy hc hv hd
    have := h u h1 h2
    have := Vx.len
    have := Vy.len
    omega
/-- whether it accepts a word -/
def accL (d : Da) (w : List Int) : Bool := accP d (goD d d.st w)
theorem cls_auto {d : Da} (V : VD d) : ClsL (accL d) (colsD d) (d.nx.length + 1) := by
  refine ⟨fun w => goN d d.st.toNat w, fun w hw => ?_, fun u v hu hv h e he => ?_⟩
  · have hst := V.st
    have hw : okW d w := hw
    have := (stI_go V (w := w) (s := d.st.toNat) (by omega) hw).2
    show goN d d.st.toNat w < _
    omega
  · have hst := V.st
    have hu : okW d u := hu
    have hv : okW d v := hv
    have h : goN d d.st.toNat u = goN d d.st.toNat v := h
    have a := (stI_go V (w := u) (s := d.st.toNat) (by omega) hu).1
    have b := (stI_go V (w := v) (s := d.st.toNat) (by omega) hv).1
    rw [stI_st V] at a b
    unfold accL
    rw [goD_app, goD_app, ← a, ← b, h]
/-- the same, but what is accepted tells 0 -/
def flatD (d : Da) : Da := ⟨d.st, d.ac.map fun k => min k 0, d.nx⟩
theorem flat_cols (d : Da) : colsD (flatD d) = colsD d := rfl
theorem flat_valid {d : Da} (V : VD d) : VD (flatD d) := by
  refine ⟨V.len, by simp [flatD, V.acc], V.cols, V.row, V.st, fun x hx => ?_, V.to⟩
  obtain ⟨y, hy, rfl⟩ := List.mem_map.1 hx
  have := V.ac y hy
  omega
theorem flat_go (d : Da) (s : Nat) (w : List Int) : goN (flatD d) s w = goN d s w := rfl
theorem flat_tl {d : Da} (V : VD d) {w : List Int} (hw : okW d w) : tlN (flatD d) d.st.toNat w = if accL d w then 0 else -1 := by
  have hst := V.st
  have h := stI_go V (w := w) (s := d.st.toNat) (by omega) hw
  rw [stI_st V] at h
  unfold tlN accL
  rw [flat_go, ← h.1]
  have hac := V.acc
  unfold fA flatD stI accP accD
  by_cases q : goN d d.st.toNat w < d.nx.length
  · have hx : goN d d.st.toNat w < d.ac.length := by omega
    rw [if_pos q, getD_append_l (by simpa using hx), List.getD_eq_getElem?_getD, List.getElem?_map, List.getElem?_eq_getElem hx]
    have hm := V.ac _ (List.getElem_mem hx)
    simp only [Option.map_some, Option.getD_some, Int.toNat_natCast, List.getD_eq_getElem?_getD, List.getElem?_eq_getElem hx]
    by_cases q2 : 0 ≤ d.ac[goN d d.st.toNat w]
    · simp [q2]; omega
    · simp [q2]; omega
  · rw [if_neg q]
    have e : goN d d.st.toNat w = (d.ac.map fun k => min k 0).length := by simp; omega
    rw [e, getD_append_at]
    simp
theorem cls_congr {L L' : List Int → Bool} {k N : Nat} (h : ∀ w, okK k w → L w = L' w) (hN : ClsL L' k N) : ClsL L k N := by
  obtain ⟨cls, h1, h2⟩ := hN
  refine ⟨cls, h1, fun u v hu hv e w hw => ?_⟩
  rw [h _ (okK_app.2 ⟨hu, hw⟩), h _ (okK_app.2 ⟨hv, hw⟩)]
  exact h2 u v hu hv e w hw
/-- what comparing with x answers -/
def relA (x m : Da) (b : Bool) (w : List Int) : Prop := (b = true ∧ NoW x m) ∨ (b = false ∧ okW x w ∧ w.length ≤ 2000 ∧ Dif x m w)
/-- the automaton of words of one symbol, once -/
def oneD : Da := ⟨0, [-1, 0], [[1], [-1]]⟩
theorem oneD_valid : VD oneD := by
  refine ⟨by decide, rfl, by decide, by decide, by decide, by decide, by decide⟩
theorem goD_neg (d : Da) : ∀ w, goD d (-1) w = -1
  | [] => rfl
  | c :: w => goD_neg d w
theorem oneD_acc {w : List Int} (hw : okK 1 w) : decide (w.length = 1) = accL oneD w := by
  match w, hw with
  | [], _ => rfl
  | [a], hw =>
    have h1 := hw a (by simp)
    have : a = 0 := by omega
    subst this
    rfl
  | a :: b :: r, hw =>
    have h1 := hw a (by simp)
    have h2 := hw b (by simp)
    have e1 : a = 0 := by omega
    have e2 : b = 0 := by omega
    subst e1 e2
    have : goD oneD oneD.st (0 :: 0 :: r) = -1 := goD_neg oneD r
    unfold accL
    rw [this]
    simp [accP]
theorem oneD_min : MinS (flatD oneD) oneD := by
  have V := flat_valid oneD_valid
  have h0 : Bfs (flatD oneD) [0] [] [] := Bfs.init
  have hl : ¬ DeadN (flatD oneD) 1 := fun h => by
    have := h [] (by simp [okW])
    revert this
    decide
  have h1 : Bfs (flatD oneD) [0, 1] [] [1] := by
    refine Bfs.new (s := 0) h0 rfl (by decide) hl ?_
    intro t ht h
    simp at ht
    subst ht
    have := h [] (by simp [okW])
    revert this
    decide
  have h2 := Bfs.next h1 (by decide)
  have h3 : Bfs (flatD oneD) [0, 1] [[1]] [-1] := by
    refine Bfs.skip (s := 1) h2 rfl (by decide) ?_
    intro w _
    exact tlN_dead V w
  have h4 := Bfs.next h3 (by decide)
  exact ⟨[0, 1], h4, rfl, rfl, by decide⟩
/-- the automaton of no words of k symbols -/
def noneD (k : Nat) : Da := ⟨0, [-1], [List.replicate k (-1)]⟩
theorem noneD_cols (k : Nat) : colsD (noneD k) = k := by simp [colsD, noneD]
theorem noneD_valid {k : Nat} (hk : 1 ≤ k ∧ k ≤ 16) : VD (noneD k) := by
  refine ⟨by simp [noneD], rfl, by rw [noneD_cols]; exact hk, ?_, by simp [noneD], by simp [noneD], ?_⟩
  · intro r hr
    simp [noneD] at hr
    rw [noneD_cols, hr]
    simp
  · intro r hr t ht
    simp [noneD] at hr
    subst hr
    have := List.eq_of_mem_replicate ht
    subst this
    simp [noneD]
theorem noneD_step {k c : Nat} (hc : c < k) : gI (noneD k) 0 (c : Int) = 1 := by
  have : stepD (noneD k) ((0 : Nat) : Int) (c : Int) = -1 := by simp [stepD, noneD, List.getD_eq_getElem?_getD, hc]
  unfold gI
  rw [this, if_neg (by omega)]
  rfl
theorem noneD_acc {k : Nat} (hk : 1 ≤ k ∧ k ≤ 16) {w : List Int} (hw : okK k w) : false = accL (noneD k) w := by
  match w, hw with
  | [], _ => rfl
  | a :: r, hw =>
    have h1 := hw a (by simp)
    obtain ⟨m, rfl⟩ : ∃ m : Nat, a = m := ⟨a.toNat, by omega⟩
    have e1 : nxt (noneD k) 0 (m : Int) = -1 := by
      unfold nxt
      rw [if_neg (by omega)]
      have hm : m < k := by omega
      simp [stepD, noneD, List.getD_eq_getElem?_getD, hm]
    have : goD (noneD k) (noneD k).st ((m : Int) :: r) = -1 := by
      show goD (noneD k) (nxt (noneD k) 0 (m : Int)) r = -1
      rw [e1]
      exact goD_neg _ r
    unfold accL
    rw [this]
    simp [accP]
theorem noneD_min {k : Nat} (hk : 1 ≤ k ∧ k ≤ 16) : MinS (flatD (noneD k)) (noneD k) := by
  have V := flat_valid (noneD_valid hk)
  have h1 : ∀ c, c ≤ k → Bfs (flatD (noneD k)) [0] [] (List.replicate c (-1)) := by
    intro c
    induction c with
    | zero => exact fun _ => Bfs.init
    | succ c ih =>
      intro hc
      have := Bfs.skip (s := 0) (ih (by omega)) rfl (by rw [flat_cols, noneD_cols]; simp; omega) (by
        intro w _
        rw [List.length_replicate]
        have e : gI (flatD (noneD k)) 0 (c : Int) = (flatD (noneD k)).nx.length := noneD_step (by omega)
        rw [e]
        exact tlN_dead V w)
      rwa [← List.replicate_succ'] at this
  have h2 := Bfs.next (h1 k (Nat.le_refl _)) (by rw [flat_cols, noneD_cols]; simp)
  exact ⟨[0], h2, rfl, rfl, by simp [noneD, flatD, fA]; decide⟩
end Go.Proofs.Ytniobbepliknmaa.V
/- The text of slices.EqualFunc[[][]int,[][]int,[]int,[]int] as a statement (slots: 0 s1, 1 s2, 2 eq, 3 s1, 4 s2, 5 eq, 7 i, 8 v1, 9 v2); no condition. -/
namespace Go.Proofs.Ytniobbepliknmaa.V
open Go
def S82_1 : Stmt :=
  Stmt.seq
  (Stmt.region [SOper.mk (some 18) none (SOp.ibin BinOp.lss (Operand.tmp 17) (Operand.tmp 16))] [1, 2, 15, 16, 17, 18])
  (Stmt.seq (Stmt.cond (Operand.tmp 18) Stmt.skip (Stmt.exit 0))
    (Stmt.seq
      (Stmt.block 1
        (Stmt.seq
          (Stmt.region
            [SOper.mk (some 19) none (SOp.mv (Operand.tmp 17)),
              SOper.mk (some 20) none (SOp.idx 1 (Operand.tmp 15) (Operand.tmp 17)),
              SOper.mk (some 21) none (SOp.load false 1 (Operand.tmp 20)),
              SOper.mk (some 7) none (SOp.mv (Operand.tmp 19)), SOper.mk (some 8) none (SOp.mv (Operand.tmp 21))]
            [1, 2, 7, 8, 15, 16, 17])
          (Stmt.seq
            (Stmt.region
              [SOper.mk (some 22) none (SOp.mv (Operand.tmp 1)), SOper.mk (some 23) none (SOp.mv (Operand.tmp 7)),
                SOper.mk (some 24) none (SOp.idx 1 (Operand.tmp 22) (Operand.tmp 23)),
                SOper.mk (some 25) none (SOp.load false 1 (Operand.tmp 24)),
                SOper.mk (some 9) none (SOp.mv (Operand.tmp 25))]
              [1, 2, 8, 9, 15, 16, 17])
            (Stmt.seq
              (Stmt.region
                [SOper.mk (some 26) none (SOp.mv (Operand.tmp 2)), SOper.mk (some 27) none (SOp.mv (Operand.tmp 8)),
                  SOper.mk (some 28) none (SOp.mv (Operand.tmp 9)),
                  SOper.mk (some 29) none (SOp.call (Operand.tmp 26) [Operand.tmp 27, Operand.tmp 28]),
                  SOper.mk (some 30) none (SOp.un UnOp.not (Operand.tmp 29))]
                [1, 2, 15, 16, 17, 30])
              (Stmt.cond (Operand.tmp 30)
                (Stmt.seq (Stmt.region [SOper.mk (some 6) none (SOp.mv (Operand.const (Value.bool false)))] [6])
                  Stmt.ret)
                Stmt.skip)))))
      (Stmt.region
        [SOper.mk (some 31) none (SOp.ibin BinOp.add (Operand.tmp 17) (Operand.const (Value.int IntKind.i64 1))),
          SOper.mk (some 17) none (SOp.mv (Operand.tmp 31))]
        [1, 2, 15, 16, 17])))
def S82_0 : Stmt :=
  Stmt.seq (Stmt.region [SOper.mk (some 6) none (SOp.mv (Operand.const (Value.bool false)))] [0, 1, 2])
  (Stmt.seq
    (Stmt.seq
      (Stmt.region
        [SOper.mk (some 10) none (SOp.mv (Operand.tmp 0)), SOper.mk (some 11) none (SOp.len false (Operand.tmp 10)),
          SOper.mk (some 12) none (SOp.mv (Operand.tmp 1)), SOper.mk (some 13) none (SOp.len false (Operand.tmp 12)),
          SOper.mk (some 14) none (SOp.ibin BinOp.neq (Operand.tmp 11) (Operand.tmp 13))]
        [0, 1, 2, 14])
      (Stmt.cond (Operand.tmp 14)
        (Stmt.seq (Stmt.region [SOper.mk (some 6) none (SOp.mv (Operand.const (Value.bool false)))] [6]) Stmt.ret)
        Stmt.skip))
    (Stmt.seq
      (Stmt.seq
        (Stmt.region
          [SOper.mk (some 15) none (SOp.mv (Operand.tmp 0)), SOper.mk (some 16) none (SOp.len false (Operand.tmp 15)),
            SOper.mk (some 17) none (SOp.mv (Operand.const (Value.int IntKind.i64 0)))]
          [1, 2, 15, 16, 17])
        (Stmt.block 0 (Stmt.loop S82_1 [17] [1, 2, 15, 16])))
      (Stmt.seq (Stmt.region [SOper.mk (some 6) none (SOp.mv (Operand.const (Value.bool true)))] [6]) Stmt.ret)))
def S82 : FnS := ⟨32, [(6, none)], S82_0⟩
theorem tr82 : trFn Try.prog 82 [] [[0, 1, 2], [0, 1, 2, 14], [6], [1, 2, 15, 16, 17], [17], [1, 2, 15, 16], [1, 2, 15, 16, 17, 18], [1, 2, 7, 8, 15, 16, 17], [1, 2, 8, 9, 15, 16, 17], [1, 2, 15, 16, 17, 30], [6], [1, 2, 15, 16, 17], [6]] = some S82 := by kernel_rfl
end Go.Proofs.Ytniobbepliknmaa.V
/- The text of parlance/parlref5.DfaRight as a statement (slots: 0 d, 1 d); no condition. -/
namespace Go.Proofs.Ytniobbepliknmaa.V
open Go
def S92_0 : Stmt :=
  Stmt.seq
  (Stmt.region
    [SOper.mk (some 1) none (SOp.box true 67 (Operand.tmp 0)),
      SOper.mk (some 2) none (SOp.mv (Operand.const (Value.bool false)))]
    [1])
  (Stmt.seq
    (Stmt.region
      [SOper.mk (some 3) none (SOp.load true 3 (Operand.tmp 1)),
        SOper.mk (some 4) none (SOp.call (Operand.func 47) [Operand.tmp 3]),
        SOper.mk (some 5) none (SOp.ibin BinOp.eql (Operand.tmp 4) (Operand.const (Value.int IntKind.i64 0))),
        SOper.mk (some 2) none (SOp.mv (Operand.tmp 5))]
      [2])
    Stmt.ret)
def S92 : FnS := ⟨6, [(2, none)], S92_0⟩
theorem tr92 : trFn Try.prog 92 [1] [[1], [2]] = some S92 := by kernel_rfl
end Go.Proofs.Ytniobbepliknmaa.V
/- slices.EqualFunc of rows of numbers by slices.Equal, parlref5.DfaRight; no condition. -/
namespace Go.Proofs.Ytniobbepliknmaa.V
open Go
set_option linter.unusedVariables false
set_option linter.unusedSimpArgs false
attribute [local go_sem] e_seq e_region e_quiet e_join e_loop e_cond e_block e_exit e_ret e_skip e_fin e_kseq e_snrm e_sret e_sex e_bnrm e_bret e_bex e_rnrm e_rret e_res e_condC e_nil e_g e_mv g_mv e_pick g_pick pickC_eq e_ibin g_ibin ibinC_eq e_sbin g_sbin e_beq g_beq beqC_eq e_nilq g_nilq nilqC_sl nilqC_pt nilqC_mp e_un g_un unC_not unC_neg e_conv g_conv convC_eq e_fld g_fld fldC_ref fldC_ptr e_nilCheck g_nilCheck nilCheckC_ref nilCheckC_ptr nilCheckC_fun e_field g_field fieldC_eq e_len g_len lenC_sl lenC_str e_extract g_extract extractC_eq e_mkFunc e_build g_build e_idiv g_idiv idivC_eq e_ishift g_ishift ishiftC_eq e_idx g_idx e_idxA g_idxA e_load g_load e_loadB g_loadB atB_ref atB_v g_mkFunc loadC_ref loadC_ptr loadB_eq e_slc g_slc e_box boxC_loc boxC_esc e_alloc allocC_loc allocC_esc e_buildS e_store storeC_ref storeC_ptr storeB_eq e_append e_appz e_mk mkC_eq e_call callC_eq e_fn g_fn fnC_eq fnV_min' fnV_max' fnV_rune' e_q g_q e_a e_n g_call g_box g_alloc g_buildS g_store g_append g_mk g_a g_n g_dead e_dead e_callK e_drawn e_tree e_finJ e_tk e_tfin e_tno e_nbt_q e_nbt_qn e_nbt_a e_nbt_an e_nbt_fin e_drawnB e_bxb_nil e_bxb e_stB_none e_stB_some boxSt_store bs_mv bs_pick bs_ibin bs_idiv bs_ishift bs_sbin bs_beq bs_nilq bs_un bs_conv bs_box bs_alloc bs_build bs_buildS bs_load bs_fld bs_nilCheck bs_idx bs_idxA bs_field bs_slc bs_len bs_append bs_appz bs_mk bs_call bs_extract bs_mkFunc bs_fn bs_q bs_a bs_n bs_loadB bs_dead isBox_box e_early_nil e_early_t e_early_f e_nob_nil e_nob_none e_nob_some isBox_dead isBox_v isBox_ref e_dnil e_dk e_ek e_finB vcOps_vc1 e_dcons e_tq e_ekt e_tearly e_talt e_dearly look_nil look_c proj_nil proj_c looks_nil looks_c zip_nil zip_c val_tmp val_const val_func slv_v slv_box slv_ref slot_tmp slot_const slot_func slotL_v slotL_box slotL_ref put_some put_none updBox_c boxSet_box gd_eq slotVals_nil slotVals_c slotVals_b boxV_box boxOn_box slotsOn_nil slotsOn_c slotsOn_b resV_one resV_two vals_nil vals_c allOn_nil allOn_c partOn_nil partOn_c partVals_nil partVals_c fits_nil fits_c fillL_nil fillL_c mkv_one mkv_agg cellsV_agg cellsV_int cellsV_bool cellsV_slice cellsV_string cellsV_pointer cellsV_func cellsV_nilf cellsV_map one'_nil one'_c oc_int oc_bool oc_slice oc_string oc_pointer oc_func oc_nilf oc_map setC_eq iv_add iv_sub iv_mul iv_eql iv_neq iv_lss iv_leq iv_gtr iv_geq iok_add iok_sub iok_mul iok_eql iok_neq iok_lss iok_leq iok_gtr iok_geq pickV_bool args0_nil args0_c bnd_none bnd_some imp_bt imp_bf imp_ebt imp_ebf imp_eb1 imp_np imp_pp beq_tt beq_tf beq_ft beq_ff cond_or cond_and e_round e_meet Int.le_refl Int.toNat_zero decide_true decide_false Bool.or_false Bool.false_or Bool.true_or Bool.or_true Bool.and_false Bool.false_and Bool.bne_false Bool.bne_true beq_iff_eq Int.cast_ofNat_Int not_false_eq_true not_true_eq_false false_and and_false false_implies true_implies true_and and_true Bool.true_and Bool.and_true Bool.not_true Bool.not_false forall_const implies_true List.take_zero List.drop_zero List.take_succ_cons List.drop_succ_cons List.take_nil List.drop_nil List.length_cons List.length_nil List.nil_append List.append_nil List.cons_append Int.toNat_natCast decide_eq_true_eq decide_eq_false_iff_not cond_true cond_false and_self List.getElem?_cons_zero List.getElem?_cons_succ List.set_cons_zero List.set_cons_succ Option.some.injEq exists_eq_left' Nat.zero_add Nat.add_zero Nat.mul_one imp_self true_or or_true or_false false_or Bool.or_eq_true Bool.or_eq_false_iff Bool.and_eq_true Bool.and_eq_false_iff Bool.not_eq_true' Bool.not_eq_false'

theorem equal_rows {Γr : Ctx} {A B : Option Addr} {c d : Nat} {xs ys : List (List Int)} (hx : SlOk (lk Γr) A c xs) (hy : SlOk (lk Γr) B d ys) :
    Ret Try.prog 82 [.slice A xs.length c, .slice B ys.length d, .func (.func 28) #[] #[]] Γr [] (fun v Γ => Γ = [] ∧ v = .bool (decide (xs = ys))) := by
  generalize hR : (fun v Γ => Γ = [] ∧ v = _) = R
  refine ret_of_vc tr82 (Nat.le_of_ble_eq_true rfl) ?_
  have h1 := hx.short
  have h2 := hy.short
  simp -implicitDefEqProofs only [S82, S82_0, go_sem, Nat.reduceBEq, Nat.reduceAdd, Nat.reduceSub, Nat.reduceMul, Nat.reduceLeDiff, reduceCtorEq, ↓reduceIte, Int.reduceLT, Int.reduceLE, Int.reduceEq, Int.reduceNe]
  refine ⟨fun hne => Up.here ?_, fun heq => ?_⟩
  · subst hR
    refine ⟨rfl, ?_⟩
    have : xs ≠ ys := fun e => by subst e; exact hne rfl
    simp [this]
  have hl : xs.length = ys.length := by omega
  refine s_loop (fun f vs Γ => Γ = [] ∧ ∃ k : Nat, vs = [.v true (.int .i64 k)] ∧ k + f = xs.length ∧ xs.take k = ys.take k) xs.length (Up.here ⟨rfl, 0, rfl, by omega, by simp⟩) ?_
  rintro f vs Γ ⟨rfl, k, rfl, hkf, htk⟩
  simp -implicitDefEqProofs only [S82_1, go_sem, Nat.reduceBEq, Nat.reduceAdd, Nat.reduceSub, Nat.reduceMul, Nat.reduceLeDiff, reduceCtorEq, ↓reduceIte, Int.reduceLT, Int.reduceLE, Int.reduceEq, Int.reduceNe]
  refine ⟨fun hlt => ?_, fun hge => ?_⟩
  · have hk : k < xs.length := by omega
    have hk' : k < ys.length := by omega
    obtain ⟨b, o, hA, A1, c1, hr1, hc1⟩ := hx.list hk
    obtain ⟨b', o', hB, A2, c2, hr2, hc2⟩ := hy.list hk'
    refine s_idx hA (by omega) (by omega) ?_
    simp -implicitDefEqProofs only [go_sem, Nat.reduceBEq, Nat.reduceAdd, Nat.reduceSub, Nat.reduceMul, Nat.reduceLeDiff, reduceCtorEq, ↓reduceIte, Int.reduceLT, Int.reduceLE, Int.reduceEq, Int.reduceNe]
    refine s_ld0 (hc1 _ (Mem.le.refl _)) (by simp) (by simp) ?_
    simp -implicitDefEqProofs only [go_sem, Nat.reduceBEq, Nat.reduceAdd, Nat.reduceSub, Nat.reduceMul, Nat.reduceLeDiff, reduceCtorEq, ↓reduceIte, Int.reduceLT, Int.reduceLE, Int.reduceEq, Int.reduceNe]
    refine s_idx hB (by omega) (by omega) ?_
    simp -implicitDefEqProofs only [go_sem, Nat.reduceBEq, Nat.reduceAdd, Nat.reduceSub, Nat.reduceMul, Nat.reduceLeDiff, reduceCtorEq, ↓reduceIte, Int.reduceLT, Int.reduceLE, Int.reduceEq, Int.reduceNe]
    refine s_ld0 (hc2 _ (Mem.le.refl _)) (by simp) (by simp) ?_
    simp -implicitDefEqProofs only [go_sem, Nat.reduceBEq, Nat.reduceAdd, Nat.reduceSub, Nat.reduceMul, Nat.reduceLeDiff, reduceCtorEq, ↓reduceIte, Int.reduceLT, Int.reduceLE, Int.reduceEq, Int.reduceNe]
    refine CallVC.read (slices_equal (hr1.mono (Mem.le.refl _)) (hr2.mono (Mem.le.refl _))) ?_
    rintro v Γ' ⟨rfl, rfl⟩
    simp -implicitDefEqProofs only [go_sem, Nat.reduceBEq, Nat.reduceAdd, Nat.reduceSub, Nat.reduceMul, Nat.reduceLeDiff, reduceCtorEq, ↓reduceIte, Int.reduceLT, Int.reduceLE, Int.reduceEq, Int.reduceNe]
    refine ⟨fun hne => Up.here ?_, fun heq => ?_⟩
    · subst hR
      refine ⟨rfl, ?_⟩
      have : xs ≠ ys := fun e => by subst e; simp at hne
      simp [this]
    · simp (disch := omega) only [wrap_id]
      exact ⟨f - 1, by omega, Up.here ⟨rfl, k + 1, rfl, by omega, take_eq_succ hk hk' htk (by simpa using heq)⟩⟩
  · have hk : k = xs.length := by omega
    refine Up.here ?_
    subst hR
    refine ⟨rfl, ?_⟩
    have : xs = ys := by
      have := htk
      rw [hk, List.take_length] at this
      rw [this, hl, List.take_length]
    simp [this]
theorem ref_right {Γr : Ctx} {d : Da} {A B : Option Addr} {c e : Nat} (hA : SlOk (lk Γr) A c d.ac) (hB : SlOk (lk Γr) B e d.nx) :
    Ret Try.prog 92 [.agg #[.int .i64 d.st, .slice A d.ac.length c, .slice B d.nx.length e]] Γr [] (fun v Γ => Γ = [] ∧ v = .bool (decide (dfF d = 0))) := by
  generalize hR : (fun (v : Value) (Γ : Ctx) => Γ = [] ∧ v = _) = R
  refine ret_of_vc tr92 (Nat.le_of_ble_eq_true rfl) ?_
  simp -implicitDefEqProofs only [S92, S92_0, go_sem, Nat.reduceBEq, Nat.reduceAdd, Nat.reduceSub, Nat.reduceMul, Nat.reduceLeDiff, reduceCtorEq, ↓reduceIte, Int.reduceLT, Int.reduceLE, Int.reduceEq, Int.reduceNe]
  intro b1
  refine CallVC.read (ref_dfa (hA.mono (lk_r [] _)) (hB.mono (lk_r [] _))) ?_
  rintro v Γ' ⟨rfl, rfl⟩
  simp -implicitDefEqProofs only [go_sem, Nat.reduceBEq, Nat.reduceAdd, Nat.reduceSub, Nat.reduceMul, Nat.reduceLeDiff, reduceCtorEq, ↓reduceIte, Int.reduceLT, Int.reduceLE, Int.reduceEq, Int.reduceNe]
  refine Up.here ?_
  subst hR
  exact ⟨rfl, rfl⟩
end Go.Proofs.Ytniobbepliknmaa.V
/- The text of parlance/parlref5.Apart$1 as a statement (slots: 0 d, 1 s, 2 d, 3 s); no condition. -/
namespace Go.Proofs.Ytniobbepliknmaa.V
open Go
def S118_0 : Stmt :=
  Stmt.seq
  (Stmt.region
    [SOper.mk (some 2) none (SOp.box true 67 (Operand.tmp 0)),
      SOper.mk (some 4) none (SOp.mv (Operand.const (Value.bool false)))]
    [1, 2])
  (Stmt.seq
    (Stmt.region
      [SOper.mk (some 5) none (SOp.mv (Operand.tmp 1)), SOper.mk (some 6) none (SOp.fld 2 (Operand.tmp 2)),
        SOper.mk (some 7) none (SOp.load false 1 (Operand.tmp 6)),
        SOper.mk (some 8) none (SOp.len false (Operand.tmp 7)),
        SOper.mk (some 9) none (SOp.ibin BinOp.lss (Operand.tmp 5) (Operand.tmp 8)),
        SOper.mk (some 10) none (SOp.mv (Operand.tmp 9)),
        SOper.mk (some 11) (some (10, true)) (SOp.fld 1 (Operand.tmp 2)),
        SOper.mk (some 12) (some (10, true)) (SOp.load false 1 (Operand.tmp 11)),
        SOper.mk (some 13) (some (10, true)) (SOp.mv (Operand.tmp 1)),
        SOper.mk (some 14) (some (10, true)) (SOp.idx 1 (Operand.tmp 12) (Operand.tmp 13)),
        SOper.mk (some 15) (some (10, true)) (SOp.load false 1 (Operand.tmp 14)),
        SOper.mk (some 16) (some (10, true))
          (SOp.ibin BinOp.geq (Operand.tmp 15) (Operand.const (Value.int IntKind.i64 0))),
        SOper.mk (some 17) none (SOp.pick (Operand.tmp 10) (Operand.tmp 16) (Operand.const (Value.bool false))),
        SOper.mk (some 4) none (SOp.mv (Operand.tmp 17))]
      [4])
    Stmt.ret)
def S118 : FnS := ⟨18, [(4, none)], S118_0⟩
theorem tr118 : trFn Try.prog 118 [2] [[1, 2], [4]] = some S118 := by kernel_rfl
end Go.Proofs.Ytniobbepliknmaa.V
/- The text of parlance/parlref5.Apart$2 as a statement (slots: 0 d, 1 s, 2 c, 3 d, 4 s, 5 c); no condition. -/
namespace Go.Proofs.Ytniobbepliknmaa.V
open Go
def S119_0 : Stmt :=
  Stmt.seq
  (Stmt.region
    [SOper.mk (some 3) none (SOp.box true 67 (Operand.tmp 0)),
      SOper.mk (some 6) none (SOp.mv (Operand.const (Value.int IntKind.i64 0)))]
    [1, 2, 3])
  (Stmt.seq
    (Stmt.seq
      (Stmt.region
        [SOper.mk (some 7) none (SOp.mv (Operand.tmp 1)), SOper.mk (some 8) none (SOp.fld 2 (Operand.tmp 3)),
          SOper.mk (some 9) none (SOp.load false 1 (Operand.tmp 8)),
          SOper.mk (some 10) none (SOp.len false (Operand.tmp 9)),
          SOper.mk (some 11) none (SOp.ibin BinOp.lss (Operand.tmp 7) (Operand.tmp 10)),
          SOper.mk (some 12) none (SOp.mv (Operand.tmp 11)),
          SOper.mk (some 13) (some (12, true)) (SOp.fld 2 (Operand.tmp 3)),
          SOper.mk (some 14) (some (12, true)) (SOp.load false 1 (Operand.tmp 13)),
          SOper.mk (some 15) (some (12, true)) (SOp.mv (Operand.tmp 1)),
          SOper.mk (some 16) (some (12, true)) (SOp.idx 1 (Operand.tmp 14) (Operand.tmp 15)),
          SOper.mk (some 17) (some (12, true)) (SOp.load false 1 (Operand.tmp 16)),
          SOper.mk (some 18) (some (12, true)) (SOp.mv (Operand.tmp 2)),
          SOper.mk (some 19) (some (12, true)) (SOp.idx 1 (Operand.tmp 17) (Operand.tmp 18)),
          SOper.mk (some 20) (some (12, true)) (SOp.load false 1 (Operand.tmp 19)),
          SOper.mk (some 21) (some (12, true))
            (SOp.ibin BinOp.geq (Operand.tmp 20) (Operand.const (Value.int IntKind.i64 0))),
          SOper.mk (some 22) none (SOp.pick (Operand.tmp 12) (Operand.tmp 21) (Operand.const (Value.bool false)))]
        [1, 2, 3, 22])
      (Stmt.cond (Operand.tmp 22)
        (Stmt.seq
          (Stmt.region
            [SOper.mk (some 23) none (SOp.fld 2 (Operand.tmp 3)),
              SOper.mk (some 24) none (SOp.load false 1 (Operand.tmp 23)),
              SOper.mk (some 25) none (SOp.mv (Operand.tmp 1)),
              SOper.mk (some 26) none (SOp.idx 1 (Operand.tmp 24) (Operand.tmp 25)),
              SOper.mk (some 27) none (SOp.load false 1 (Operand.tmp 26)),
              SOper.mk (some 28) none (SOp.mv (Operand.tmp 2)),
              SOper.mk (some 29) none (SOp.idx 1 (Operand.tmp 27) (Operand.tmp 28)),
              SOper.mk (some 30) none (SOp.load false 1 (Operand.tmp 29)),
              SOper.mk (some 6) none (SOp.mv (Operand.tmp 30))]
            [6])
          Stmt.ret)
        Stmt.skip))
    (Stmt.seq
      (Stmt.region
        [SOper.mk (some 31) none (SOp.fld 2 (Operand.tmp 3)),
          SOper.mk (some 32) none (SOp.load false 1 (Operand.tmp 31)),
          SOper.mk (some 33) none (SOp.len false (Operand.tmp 32)), SOper.mk (some 6) none (SOp.mv (Operand.tmp 33))]
        [6])
      Stmt.ret))
def S119 : FnS := ⟨34, [(6, none)], S119_0⟩
theorem tr119 : trFn Try.prog 119 [3] [[1, 2, 3], [1, 2, 3, 22], [6], [6]] = some S119 := by kernel_rfl
end Go.Proofs.Ytniobbepliknmaa.V
/- The text of parlance/parlref5.grid[int] as a statement (slots: 0 a, 1 b, 2 a, 3 b, 5 out, 6 i); no condition. -/
namespace Go.Proofs.Ytniobbepliknmaa.V
open Go
def S120_1 : Stmt :=
  Stmt.seq
  (Stmt.region [SOper.mk (some 12) none (SOp.ibin BinOp.lss (Operand.tmp 11) (Operand.tmp 10))] [1, 5, 10, 11, 12])
  (Stmt.seq (Stmt.cond (Operand.tmp 12) Stmt.skip (Stmt.exit 0))
    (Stmt.seq
      (Stmt.block 1
        (Stmt.seq
          (Stmt.region
            [SOper.mk (some 13) none (SOp.mv (Operand.tmp 11)), SOper.mk (some 6) none (SOp.mv (Operand.tmp 13))]
            [1, 5, 6, 10, 11])
          (Stmt.region
            [SOper.mk (some 14) none (SOp.mv (Operand.tmp 5)), SOper.mk (some 15) none (SOp.mv (Operand.tmp 6)),
              SOper.mk (some 16) none (SOp.mv (Operand.tmp 1)),
              SOper.mk (some 17) none (SOp.mk 3 1 8 (Value.int IntKind.i64 0) (Operand.tmp 16) (Operand.tmp 16)),
              SOper.mk (some 18) none (SOp.idx 1 (Operand.tmp 14) (Operand.tmp 15)),
              SOper.mk none none (SOp.store 1 (Operand.tmp 18) (Operand.tmp 17))]
            [1, 5, 10, 11])))
      (Stmt.region
        [SOper.mk (some 19) none (SOp.ibin BinOp.add (Operand.tmp 11) (Operand.const (Value.int IntKind.i64 1))),
          SOper.mk (some 11) none (SOp.mv (Operand.tmp 19))]
        [1, 5, 10, 11])))
def S120_0 : Stmt :=
  Stmt.seq (Stmt.region [SOper.mk (some 4) none (SOp.mv (Operand.const (Value.slice none 0 0)))] [0, 1])
  (Stmt.seq
    (Stmt.region
      [SOper.mk (some 7) none (SOp.mv (Operand.tmp 0)),
        SOper.mk (some 8) none (SOp.mk 29 1 24 (Value.slice none 0 0) (Operand.tmp 7) (Operand.tmp 7)),
        SOper.mk (some 5) none (SOp.mv (Operand.tmp 8))]
      [1, 5])
    (Stmt.seq
      (Stmt.seq
        (Stmt.region
          [SOper.mk (some 9) none (SOp.mv (Operand.tmp 5)), SOper.mk (some 10) none (SOp.len false (Operand.tmp 9)),
            SOper.mk (some 11) none (SOp.mv (Operand.const (Value.int IntKind.i64 0)))]
          [1, 5, 10, 11])
        (Stmt.block 0 (Stmt.loop S120_1 [11] [1, 5, 10])))
      (Stmt.seq
        (Stmt.region
          [SOper.mk (some 20) none (SOp.mv (Operand.tmp 5)), SOper.mk (some 4) none (SOp.mv (Operand.tmp 20))] [4])
        Stmt.ret)))
def S120 : FnS := ⟨21, [(4, none)], S120_0⟩
theorem tr120 : trFn Try.prog 120 [] [[0, 1], [1, 5], [1, 5, 10, 11], [11], [1, 5, 10], [1, 5, 10, 11, 12], [1, 5, 6, 10, 11], [1, 5, 10, 11], [1, 5, 10, 11], [4]] = some S120 := by kernel_rfl
end Go.Proofs.Ytniobbepliknmaa.V
/- Two automata side by side, by how far they are from a difference: the parts of parlref5.Apart walked; no condition. -/
namespace Go.Proofs.Ytniobbepliknmaa.V
open Go
set_option linter.unusedVariables false
set_option linter.unusedSimpArgs false
attribute [local go_sem] e_seq e_region e_quiet e_join e_loop e_cond e_block e_exit e_ret e_skip e_fin e_kseq e_snrm e_sret e_sex e_bnrm e_bret e_bex e_rnrm e_rret e_res e_condC e_nil e_g e_mv g_mv e_pick g_pick pickC_eq e_ibin g_ibin ibinC_eq e_sbin g_sbin e_beq g_beq beqC_eq e_nilq g_nilq nilqC_sl nilqC_pt nilqC_mp e_un g_un unC_not unC_neg e_conv g_conv convC_eq e_fld g_fld fldC_ref fldC_ptr e_nilCheck g_nilCheck nilCheckC_ref nilCheckC_ptr nilCheckC_fun e_field g_field fieldC_eq e_len g_len lenC_sl lenC_str e_extract g_extract extractC_eq e_mkFunc e_build g_build e_idiv g_idiv idivC_eq e_ishift g_ishift ishiftC_eq e_idx g_idx e_idxA g_idxA e_load g_load e_loadB g_loadB atB_ref atB_v g_mkFunc loadC_ref loadC_ptr loadB_eq e_slc g_slc e_box boxC_loc boxC_esc e_alloc allocC_loc allocC_esc e_buildS e_store storeC_ref storeC_ptr storeB_eq e_append e_appz e_mk mkC_eq e_call callC_eq e_fn g_fn fnC_eq fnV_min' fnV_max' fnV_rune' e_q g_q e_a e_n g_call g_box g_alloc g_buildS g_store g_append g_mk g_a g_n g_dead e_dead e_callK e_drawn e_tree e_finJ e_tk e_tfin e_tno e_nbt_q e_nbt_qn e_nbt_a e_nbt_an e_nbt_fin e_drawnB e_bxb_nil e_bxb e_stB_none e_stB_some boxSt_store bs_mv bs_pick bs_ibin bs_idiv bs_ishift bs_sbin bs_beq bs_nilq bs_un bs_conv bs_box bs_alloc bs_build bs_buildS bs_load bs_fld bs_nilCheck bs_idx bs_idxA bs_field bs_slc bs_len bs_append bs_appz bs_mk bs_call bs_extract bs_mkFunc bs_fn bs_q bs_a bs_n bs_loadB bs_dead isBox_box e_early_nil e_early_t e_early_f e_nob_nil e_nob_none e_nob_some isBox_dead isBox_v isBox_ref e_dnil e_dk e_ek e_finB vcOps_vc1 e_dcons e_tq e_ekt e_tearly e_talt e_dearly look_nil look_c proj_nil proj_c looks_nil looks_c zip_nil zip_c val_tmp val_const val_func slv_v slv_box slv_ref slot_tmp slot_const slot_func slotL_v slotL_box slotL_ref put_some put_none updBox_c boxSet_box gd_eq slotVals_nil slotVals_c slotVals_b boxV_box boxOn_box slotsOn_nil slotsOn_c slotsOn_b resV_one resV_two vals_nil vals_c allOn_nil allOn_c partOn_nil partOn_c partVals_nil partVals_c fits_nil fits_c fillL_nil fillL_c mkv_one mkv_agg cellsV_agg cellsV_int cellsV_bool cellsV_slice cellsV_string cellsV_pointer cellsV_func cellsV_nilf cellsV_map one'_nil one'_c oc_int oc_bool oc_slice oc_string oc_pointer oc_func oc_nilf oc_map setC_eq iv_add iv_sub iv_mul iv_eql iv_neq iv_lss iv_leq iv_gtr iv_geq iok_add iok_sub iok_mul iok_eql iok_neq iok_lss iok_leq iok_gtr iok_geq pickV_bool args0_nil args0_c bnd_none bnd_some imp_bt imp_bf imp_ebt imp_ebf imp_eb1 imp_np imp_pp beq_tt beq_tf beq_ft beq_ff cond_or cond_and e_round e_meet Int.le_refl Int.toNat_zero decide_true decide_false Bool.or_false Bool.false_or Bool.true_or Bool.or_true Bool.and_false Bool.false_and Bool.bne_false Bool.bne_true beq_iff_eq Int.cast_ofNat_Int not_false_eq_true not_true_eq_false false_and and_false false_implies true_implies true_and and_true Bool.true_and Bool.and_true Bool.not_true Bool.not_false forall_const implies_true List.take_zero List.drop_zero List.take_succ_cons List.drop_succ_cons List.take_nil List.drop_nil List.length_cons List.length_nil List.nil_append List.append_nil List.cons_append Int.toNat_natCast decide_eq_true_eq decide_eq_false_iff_not cond_true cond_false and_self List.getElem?_cons_zero List.getElem?_cons_succ List.set_cons_zero List.set_cons_succ Option.some.injEq exists_eq_left' Nat.zero_add Nat.add_zero Nat.mul_one imp_self true_or or_true or_false false_or Bool.or_eq_true Bool.or_eq_false_iff Bool.and_eq_true Bool.and_eq_false_iff Bool.not_eq_true' Bool.not_eq_false'

theorem grid_int {Γr : Ctx} (a n : Nat) (ha : a ≤ 1000) (hn : n ≤ 100000) :
    Ret Try.prog 120 [.int .i64 a, .int .i64 n] Γr [] (fun v Γ => ∃ g b, Γ = [g] ∧ v = .slice (some ⟨b, 0, none⟩) a a ∧ Grid g b 29 3 (List.replicate a (List.replicate n (0 : Int)))) := by
  generalize hR : (fun (v : Value) (Γ : Ctx) => ∃ g b, _) = R
  refine ret_of_vc tr120 (Nat.le_of_ble_eq_true rfl) ?_
  simp -implicitDefEqProofs only [S120, S120_0, go_sem, Nat.reduceBEq, Nat.reduceAdd, Nat.reduceSub, Nat.reduceMul, Nat.reduceLeDiff, reduceCtorEq, ↓reduceIte, Int.reduceLT, Int.reduceLE, Int.reduceEq, Int.reduceNe]
  refine ⟨by omega, by omega, fun b => ?_⟩
  refine s_loop (fun f vs Γ => ∃ g, Γ = [g] ∧ ∃ k : Nat, vs = [.v true (.int .i64 k)] ∧ k + f = a ∧ Grid g b 29 3 (part (0 : Int) a n k)) a
    (Up.here ⟨_, rfl, 0, rfl, by omega, by have := Grid.made (α := Int) b 29 3 (m := a) (by omega); simpa [part] using this⟩) ?_
  rintro f vs Γ ⟨g, rfl, k, rfl, hkf, hG⟩
  simp -implicitDefEqProofs only [S120_1, go_sem, Nat.reduceBEq, Nat.reduceAdd, Nat.reduceSub, Nat.reduceMul, Nat.reduceLeDiff, reduceCtorEq, ↓reduceIte, Int.reduceLT, Int.reduceLE, Int.reduceEq, Int.reduceNe]
  refine ⟨fun hlt => ?_, fun hge => ?_⟩
  · have hk : k < a := by omega
    refine ⟨by omega, by omega, fun b2 => ?_⟩
    refine s_idx rfl (by omega) (by omega) ?_
    simp -implicitDefEqProofs only [go_sem, Nat.reduceBEq, Nat.reduceAdd, Nat.reduceSub, Nat.reduceMul, Nat.reduceLeDiff, reduceCtorEq, ↓reduceIte, Int.reduceLT, Int.reduceLE, Int.reduceEq, Int.reduceNe]
    refine s_storeG (ix := 1) (k := b2) (List.replicate n (0 : Int)) (by simp) rfl hG (by rw [part_len _ (by omega)]; omega) (by simp; omega) ?_
    intro g' hput
    simp -implicitDefEqProofs only [go_sem, Nat.reduceBEq, Nat.reduceAdd, Nat.reduceSub, Nat.reduceMul, Nat.reduceLeDiff, reduceCtorEq, ↓reduceIte, Int.reduceLT, Int.reduceLE, Int.reduceEq, Int.reduceNe]
    simp (disch := omega) only [wrap_id]
    refine ⟨f - 1, by omega, Up.apart fun hd => Up.one fun G hG' => ⟨_, rfl, k + 1, rfl, by omega, ?_⟩⟩
    rw [← part_set _ hk]
    exact hput _ _ (Arr.made (0 : Int) b2 3 n) ((List.pairwise_cons.1 hd).1 g' (by simp)) hG'
  · have hk : k = a := by omega
    subst hk
    refine Up.here ?_
    subst hR
    exact ⟨_, b, rfl, rfl, by simpa [part] using hG⟩
section
variable {Γr : Ctx} {d : Da} {A B : Option Addr} {c e : Nat}
theorem apart_good (hA : SlOk (lk Γr) A c d.ac) (V : VD d) {s : Nat} (hs : s ≤ d.nx.length) :
    Ret Try.prog 118 [.agg #[.int .i64 d.st, .slice A d.ac.length c, .slice B d.nx.length e], .int .i64 s] Γr [] (fun v Γ => Γ = [] ∧ v = .bool (accP d (stI d s))) := by
  generalize hR : (fun (v : Value) (Γ : Ctx) => Γ = [] ∧ v = Value.bool _) = R
  refine ret_of_vc tr118 (Nat.le_of_ble_eq_true rfl) ?_
  have hac := V.acc
  have hl := V.len
  obtain ⟨bA, oA, hAe, hAc⟩ := ints_at hA (by omega)
  simp -implicitDefEqProofs only [S118, S118_0, go_sem, Nat.reduceBEq, Nat.reduceAdd, Nat.reduceSub, Nat.reduceMul, Nat.reduceLeDiff, reduceCtorEq, ↓reduceIte, Int.reduceLT, Int.reduceLE, Int.reduceEq, Int.reduceNe]
  intro b
  refine s_idxg (fun he => ⟨he, he, hAe, by omega, by simp at he; omega⟩) ?_
  simp -implicitDefEqProofs only [go_sem, Nat.reduceBEq, Nat.reduceAdd, Nat.reduceSub, Nat.reduceMul, Nat.reduceLeDiff, reduceCtorEq, ↓reduceIte, Int.reduceLT, Int.reduceLE, Int.reduceEq, Int.reduceNe]
  refine s_ldg0 (fun he => he) (fun he => hAc s (by simp at he; omega) _ (lk_r _ _)) (by simp) (by simp) ?_
  simp -implicitDefEqProofs only [go_sem, Nat.reduceBEq, Nat.reduceAdd, Nat.reduceSub, Nat.reduceMul, Nat.reduceLeDiff, reduceCtorEq, ↓reduceIte, Int.reduceLT, Int.reduceLE, Int.reduceEq, Int.reduceNe]
  refine Up.here ?_
  subst hR
  refine ⟨rfl, ?_⟩
  congr 1
  unfold accP stI accD
  by_cases h : s < d.nx.length
  · rw [if_pos h]; simp [h]
  · rw [if_neg h]; simp [h]
theorem apart_go1 (hB : SlOk (lk Γr) B e d.nx) (V : VD d) {s : Nat} (hs : s ≤ d.nx.length) {x : Nat} (hx : (x : Int) < colsD d) :
    Ret Try.prog 119 [.agg #[.int .i64 d.st, .slice A d.ac.length c, .slice B d.nx.length e], .int .i64 s, .int .i64 x] Γr [] (fun v Γ => Γ = [] ∧ v = .int .i64 (gI d s x)) := by
  generalize hR : (fun (v : Value) (Γ : Ctx) => Γ = [] ∧ v = Value.int .i64 _) = R
  refine ret_of_vc tr119 (Nat.le_of_ble_eq_true rfl) ?_
  have hl := V.len
  simp -implicitDefEqProofs only [S119, S119_0, go_sem, Nat.reduceBEq, Nat.reduceAdd, Nat.reduceSub, Nat.reduceMul, Nat.reduceLeDiff, reduceCtorEq, ↓reduceIte, Int.reduceLT, Int.reduceLE, Int.reduceEq, Int.reduceNe]
  intro b
  by_cases h : s < d.nx.length
  · have hd : decide ((s : Int) < (d.nx.length : Int)) = true := by simpa using h
    simp only [hd]
    simp -implicitDefEqProofs only [go_sem, Nat.reduceBEq, Nat.reduceAdd, Nat.reduceSub, Nat.reduceMul, Nat.reduceLeDiff, reduceCtorEq, ↓reduceIte, Int.reduceLT, Int.reduceLE, Int.reduceEq, Int.reduceNe]
    have hrl := V.row _ (List.getElem_mem h)
    have hxl : x < d.nx[s].length := by omega
    obtain ⟨b2, o2, hB2, A2, c2, hr2, hc2⟩ := hB.list h
    obtain ⟨b3, o3, hA3, hc3⟩ := hr2.int hxl
    have hto := V.to _ (List.getElem_mem h) _ (List.getElem_mem hxl)
    have hst := step_at h hxl
    refine s_idx hB2 (by omega) (by omega) ?_
    simp -implicitDefEqProofs only [go_sem, Nat.reduceBEq, Nat.reduceAdd, Nat.reduceSub, Nat.reduceMul, Nat.reduceLeDiff, reduceCtorEq, ↓reduceIte, Int.reduceLT, Int.reduceLE, Int.reduceEq, Int.reduceNe]
    refine s_ld0 (hc2 _ (lk_r _ _)) (by simp) (by simp) ?_
    simp -implicitDefEqProofs only [go_sem, Nat.reduceBEq, Nat.reduceAdd, Nat.reduceSub, Nat.reduceMul, Nat.reduceLeDiff, reduceCtorEq, ↓reduceIte, Int.reduceLT, Int.reduceLE, Int.reduceEq, Int.reduceNe]
    refine s_idx hA3 (by omega) (by omega) ?_
    simp -implicitDefEqProofs only [go_sem, Nat.reduceBEq, Nat.reduceAdd, Nat.reduceSub, Nat.reduceMul, Nat.reduceLeDiff, reduceCtorEq, ↓reduceIte, Int.reduceLT, Int.reduceLE, Int.reduceEq, Int.reduceNe]
    refine s_ld0 (hc3 _ (lk_r _ _)) (by simp) (by simp) ?_
    simp -implicitDefEqProofs only [go_sem, Nat.reduceBEq, Nat.reduceAdd, Nat.reduceSub, Nat.reduceMul, Nat.reduceLeDiff, reduceCtorEq, ↓reduceIte, Int.reduceLT, Int.reduceLE, Int.reduceEq, Int.reduceNe]
    refine ⟨fun h0 => ?_, fun h0 => Up.here ?_⟩
    · refine s_idx hB2 (by omega) (by omega) ?_
      simp -implicitDefEqProofs only [go_sem, Nat.reduceBEq, Nat.reduceAdd, Nat.reduceSub, Nat.reduceMul, Nat.reduceLeDiff, reduceCtorEq, ↓reduceIte, Int.reduceLT, Int.reduceLE, Int.reduceEq, Int.reduceNe]
      refine s_ld0 (hc2 _ (lk_r _ _)) (by simp) (by simp) ?_
      simp -implicitDefEqProofs only [go_sem, Nat.reduceBEq, Nat.reduceAdd, Nat.reduceSub, Nat.reduceMul, Nat.reduceLeDiff, reduceCtorEq, ↓reduceIte, Int.reduceLT, Int.reduceLE, Int.reduceEq, Int.reduceNe]
      refine s_idx hA3 (by omega) (by omega) ?_
      simp -implicitDefEqProofs only [go_sem, Nat.reduceBEq, Nat.reduceAdd, Nat.reduceSub, Nat.reduceMul, Nat.reduceLeDiff, reduceCtorEq, ↓reduceIte, Int.reduceLT, Int.reduceLE, Int.reduceEq, Int.reduceNe]
      refine s_ld0 (hc3 _ (lk_r _ _)) (by simp) (by simp) ?_
      simp -implicitDefEqProofs only [go_sem, Nat.reduceBEq, Nat.reduceAdd, Nat.reduceSub, Nat.reduceMul, Nat.reduceLeDiff, reduceCtorEq, ↓reduceIte, Int.reduceLT, Int.reduceLE, Int.reduceEq, Int.reduceNe]
      refine Up.here ?_
      subst hR
      refine ⟨rfl, ?_⟩
      unfold gI
      rw [if_pos ⟨h, by rw [hst]; exact h0⟩, hst]
      congr 1
      omega
    · subst hR
      refine ⟨rfl, ?_⟩
      unfold gI
      rw [if_neg (by rw [hst]; omega)]
  · have hd : decide ((s : Int) < (d.nx.length : Int)) = false := by simpa using h
    simp only [hd]
    simp -implicitDefEqProofs only [go_sem, Nat.reduceBEq, Nat.reduceAdd, Nat.reduceSub, Nat.reduceMul, Nat.reduceLeDiff, reduceCtorEq, ↓reduceIte, Int.reduceLT, Int.reduceLE, Int.reduceEq, Int.reduceNe]
    refine s_idxg (b := 0) (o := 0) (by simp) ?_
    simp -implicitDefEqProofs only [go_sem, Nat.reduceBEq, Nat.reduceAdd, Nat.reduceSub, Nat.reduceMul, Nat.reduceLeDiff, reduceCtorEq, ↓reduceIte, Int.reduceLT, Int.reduceLE, Int.reduceEq, Int.reduceNe]
    refine s_ldg0 (cs := [.slice none 0 0]) (by simp) (by simp) (by simp) (by simp) ?_
    simp -implicitDefEqProofs only [go_sem, Nat.reduceBEq, Nat.reduceAdd, Nat.reduceSub, Nat.reduceMul, Nat.reduceLeDiff, reduceCtorEq, ↓reduceIte, Int.reduceLT, Int.reduceLE, Int.reduceEq, Int.reduceNe]
    refine s_idxg (b := 0) (o := 0) (by simp) ?_
    simp -implicitDefEqProofs only [go_sem, Nat.reduceBEq, Nat.reduceAdd, Nat.reduceSub, Nat.reduceMul, Nat.reduceLeDiff, reduceCtorEq, ↓reduceIte, Int.reduceLT, Int.reduceLE, Int.reduceEq, Int.reduceNe]
    refine s_ldg0 (cs := [.int .i64 0]) (by simp) (by simp) (by simp) (by simp) ?_
    simp -implicitDefEqProofs only [go_sem, Nat.reduceBEq, Nat.reduceAdd, Nat.reduceSub, Nat.reduceMul, Nat.reduceLeDiff, reduceCtorEq, ↓reduceIte, Int.reduceLT, Int.reduceLE, Int.reduceEq, Int.reduceNe]
    refine Up.here ?_
    subst hR
    refine ⟨rfl, ?_⟩
    unfold gI
    rw [if_neg (by omega)]
end
end Go.Proofs.Ytniobbepliknmaa.V
/- The text of parlance/parlref5.Apart as a statement (slots: 0 x, 1 y, 2 x, 3 y, 6 n, 7 m, 8 good, 9 go1, 10 far, 11 a, 12 b, 13 again, 14 a, 15 b, 16 c, 17 k, 18 a, 19 b, 20 out, 21 c, 22 p, 23 q); no condition. -/
namespace Go.Proofs.Ytniobbepliknmaa.V
open Go
def S53_1 : Stmt :=
  Stmt.block 3
  (Stmt.seq
    (Stmt.region [SOper.mk (some 47) none (SOp.mv (Operand.tmp 45)), SOper.mk (some 12) none (SOp.mv (Operand.tmp 47))]
      [2, 3, 8, 9, 10, 11, 12, 36, 37, 44, 45])
    (Stmt.seq
      (Stmt.region
        [SOper.mk (some 48) none (SOp.mv (Operand.tmp 10)), SOper.mk (some 49) none (SOp.mv (Operand.tmp 11)),
          SOper.mk (some 50) none (SOp.idx 1 (Operand.tmp 48) (Operand.tmp 49)),
          SOper.mk (some 51) none (SOp.load false 1 (Operand.tmp 50)),
          SOper.mk (some 52) none (SOp.mv (Operand.tmp 12)),
          SOper.mk (some 53) none (SOp.idx 1 (Operand.tmp 51) (Operand.tmp 52)),
          SOper.mk none none (SOp.store 1 (Operand.tmp 53) (Operand.const (Value.int IntKind.i64 1099511627776)))]
        [2, 3, 8, 9, 10, 11, 12, 36, 37, 44, 45])
      (Stmt.seq
        (Stmt.drawn
          [(false, SOper.mk (some 54) none (SOp.mv (Operand.tmp 8))),
            (false, SOper.mk (some 55) none (SOp.load true 3 (Operand.tmp 2))),
            (false, SOper.mk (some 56) none (SOp.mv (Operand.tmp 11))),
            (false, SOper.mk (some 58) none (SOp.mv (Operand.tmp 8))),
            (true, SOper.mk (some 59) none (SOp.load true 3 (Operand.tmp 3))),
            (false, SOper.mk (some 60) none (SOp.mv (Operand.tmp 12))),
            (false, SOper.mk (some 57) none (SOp.call (Operand.tmp 54) [Operand.tmp 55, Operand.tmp 56])),
            (false, SOper.mk (some 61) none (SOp.call (Operand.tmp 58) [Operand.tmp 59, Operand.tmp 60])),
            (false, SOper.mk (some 62) none (SOp.beq true (Operand.tmp 57) (Operand.tmp 61)))]
          [2, 3, 8, 9, 10, 11, 12, 36, 37, 44, 45, 62])
        (Stmt.cond (Operand.tmp 62)
          (Stmt.region
            [SOper.mk (some 63) none (SOp.mv (Operand.tmp 10)), SOper.mk (some 64) none (SOp.mv (Operand.tmp 11)),
              SOper.mk (some 65) none (SOp.idx 1 (Operand.tmp 63) (Operand.tmp 64)),
              SOper.mk (some 66) none (SOp.load false 1 (Operand.tmp 65)),
              SOper.mk (some 67) none (SOp.mv (Operand.tmp 12)),
              SOper.mk (some 68) none (SOp.idx 1 (Operand.tmp 66) (Operand.tmp 67)),
              SOper.mk none none (SOp.store 1 (Operand.tmp 68) (Operand.const (Value.int IntKind.i64 0)))]
            [2, 3, 8, 9, 10, 11, 36, 37, 44, 45])
          Stmt.skip))))
def S53_2 : Stmt :=
  Stmt.region
  [SOper.mk (some 69) none (SOp.ibin BinOp.add (Operand.tmp 45) (Operand.const (Value.int IntKind.i64 1))),
    SOper.mk (some 45) none (SOp.mv (Operand.tmp 69))]
  [2, 3, 8, 9, 10, 11, 36, 37, 44, 45]
def S53_3 : Stmt :=
  Stmt.seq
  (Stmt.region [SOper.mk (some 46) none (SOp.ibin BinOp.lss (Operand.tmp 45) (Operand.tmp 44))]
    [2, 3, 8, 9, 10, 11, 36, 37, 44, 45, 46])
  (Stmt.seq (Stmt.cond (Operand.tmp 46) Stmt.skip (Stmt.exit 2))
    (Stmt.join S53_1 S53_2 [] [2, 3, 8, 9, 10, 11, 36, 37, 44, 45]))
def S53_4 : Stmt :=
  Stmt.seq
  (Stmt.region [SOper.mk (some 38) none (SOp.ibin BinOp.lss (Operand.tmp 37) (Operand.tmp 36))]
    [2, 3, 8, 9, 10, 36, 37, 38])
  (Stmt.seq (Stmt.cond (Operand.tmp 38) Stmt.skip (Stmt.exit 0))
    (Stmt.seq
      (Stmt.block 1
        (Stmt.seq
          (Stmt.region
            [SOper.mk (some 39) none (SOp.mv (Operand.tmp 37)), SOper.mk (some 11) none (SOp.mv (Operand.tmp 39))]
            [2, 3, 8, 9, 10, 11, 36, 37])
          (Stmt.seq
            (Stmt.region
              [SOper.mk (some 40) none (SOp.mv (Operand.tmp 10)), SOper.mk (some 41) none (SOp.mv (Operand.tmp 11)),
                SOper.mk (some 42) none (SOp.idx 1 (Operand.tmp 40) (Operand.tmp 41)),
                SOper.mk (some 43) none (SOp.load false 1 (Operand.tmp 42)),
                SOper.mk (some 44) none (SOp.len false (Operand.tmp 43)),
                SOper.mk (some 45) none (SOp.mv (Operand.const (Value.int IntKind.i64 0)))]
              [2, 3, 8, 9, 10, 11, 36, 37, 44, 45])
            (Stmt.block 2 (Stmt.loop S53_3 [45] [2, 3, 8, 9, 10, 11, 36, 37, 44])))))
      (Stmt.region
        [SOper.mk (some 70) none (SOp.ibin BinOp.add (Operand.tmp 37) (Operand.const (Value.int IntKind.i64 1))),
          SOper.mk (some 37) none (SOp.mv (Operand.tmp 70))]
        [2, 3, 8, 9, 10, 36, 37])))
def S53_5 : Stmt :=
  Stmt.block 11
  (Stmt.seq
    (Stmt.region [SOper.mk (some 92) none (SOp.mv (Operand.tmp 90)), SOper.mk (some 16) none (SOp.mv (Operand.tmp 92))]
      [2, 3, 9, 10, 13, 14, 15, 16, 73, 74, 81, 82, 89, 90])
    (Stmt.seq
      (Stmt.drawn
        [(false, SOper.mk (some 93) none (SOp.mv (Operand.tmp 10))),
          (false, SOper.mk (some 94) none (SOp.mv (Operand.tmp 9))),
          (false, SOper.mk (some 95) none (SOp.load true 3 (Operand.tmp 2))),
          (false, SOper.mk (some 96) none (SOp.mv (Operand.tmp 14))),
          (false, SOper.mk (some 97) none (SOp.mv (Operand.tmp 16))),
          (false, SOper.mk (some 101) none (SOp.mv (Operand.tmp 9))),
          (true, SOper.mk (some 102) none (SOp.load true 3 (Operand.tmp 3))),
          (false, SOper.mk (some 103) none (SOp.mv (Operand.tmp 15))),
          (false, SOper.mk (some 104) none (SOp.mv (Operand.tmp 16))),
          (false, SOper.mk (some 98) none (SOp.call (Operand.tmp 94) [Operand.tmp 95, Operand.tmp 96, Operand.tmp 97])),
          (false, SOper.mk (some 99) none (SOp.idx 1 (Operand.tmp 93) (Operand.tmp 98))),
          (true, SOper.mk (some 100) none (SOp.load false 1 (Operand.tmp 99))),
          (false,
            SOper.mk (some 105) none (SOp.call (Operand.tmp 101) [Operand.tmp 102, Operand.tmp 103, Operand.tmp 104])),
          (false, SOper.mk (some 106) none (SOp.idx 1 (Operand.tmp 100) (Operand.tmp 105))),
          (false, SOper.mk (some 107) none (SOp.load false 1 (Operand.tmp 106))),
          (false,
            SOper.mk (some 108) none (SOp.ibin BinOp.add (Operand.tmp 107) (Operand.const (Value.int IntKind.i64 1)))),
          (false, SOper.mk (some 17) none (SOp.mv (Operand.tmp 108)))]
        [2, 3, 9, 10, 13, 14, 15, 17, 73, 74, 81, 82, 89, 90])
      (Stmt.seq
        (Stmt.region
          [SOper.mk (some 109) none (SOp.mv (Operand.tmp 17)), SOper.mk (some 110) none (SOp.mv (Operand.tmp 10)),
            SOper.mk (some 111) none (SOp.mv (Operand.tmp 14)),
            SOper.mk (some 112) none (SOp.idx 1 (Operand.tmp 110) (Operand.tmp 111)),
            SOper.mk (some 113) none (SOp.load false 1 (Operand.tmp 112)),
            SOper.mk (some 114) none (SOp.mv (Operand.tmp 15)),
            SOper.mk (some 115) none (SOp.idx 1 (Operand.tmp 113) (Operand.tmp 114)),
            SOper.mk (some 116) none (SOp.load false 1 (Operand.tmp 115)),
            SOper.mk (some 117) none (SOp.ibin BinOp.lss (Operand.tmp 109) (Operand.tmp 116))]
          [2, 3, 9, 10, 13, 14, 15, 17, 73, 74, 81, 82, 89, 90, 117])
        (Stmt.cond (Operand.tmp 117)
          (Stmt.region
            [SOper.mk (some 118) none (SOp.mv (Operand.tmp 10)), SOper.mk (some 119) none (SOp.mv (Operand.tmp 14)),
              SOper.mk (some 120) none (SOp.idx 1 (Operand.tmp 118) (Operand.tmp 119)),
              SOper.mk (some 121) none (SOp.load false 1 (Operand.tmp 120)),
              SOper.mk (some 122) none (SOp.mv (Operand.tmp 15)), SOper.mk (some 123) none (SOp.mv (Operand.tmp 17)),
              SOper.mk (some 124) none (SOp.idx 1 (Operand.tmp 121) (Operand.tmp 122)),
              SOper.mk none none (SOp.store 1 (Operand.tmp 124) (Operand.tmp 123)),
              SOper.mk (some 13) none (SOp.mv (Operand.const (Value.bool true)))]
            [2, 3, 9, 10, 13, 14, 15, 73, 74, 81, 82, 89, 90])
          Stmt.skip))))
def S53_6 : Stmt :=
  Stmt.region
  [SOper.mk (some 125) none (SOp.ibin BinOp.add (Operand.tmp 90) (Operand.const (Value.int IntKind.i64 1))),
    SOper.mk (some 90) none (SOp.mv (Operand.tmp 125))]
  [2, 3, 9, 10, 13, 14, 15, 73, 74, 81, 82, 89, 90]
def S53_7 : Stmt :=
  Stmt.seq
  (Stmt.region [SOper.mk (some 91) none (SOp.ibin BinOp.lss (Operand.tmp 90) (Operand.tmp 89))]
    [2, 3, 9, 10, 13, 14, 15, 73, 74, 81, 82, 89, 90, 91])
  (Stmt.seq (Stmt.cond (Operand.tmp 91) Stmt.skip (Stmt.exit 10))
    (Stmt.join S53_5 S53_6 [13] [2, 3, 9, 10, 14, 15, 73, 74, 81, 82, 89, 90]))
def S53_8 : Stmt :=
  Stmt.seq
  (Stmt.region [SOper.mk (some 83) none (SOp.ibin BinOp.lss (Operand.tmp 82) (Operand.tmp 81))]
    [2, 3, 9, 10, 13, 14, 73, 74, 81, 82, 83])
  (Stmt.seq (Stmt.cond (Operand.tmp 83) Stmt.skip (Stmt.exit 8))
    (Stmt.seq
      (Stmt.block 9
        (Stmt.seq
          (Stmt.region
            [SOper.mk (some 84) none (SOp.mv (Operand.tmp 82)), SOper.mk (some 15) none (SOp.mv (Operand.tmp 84))]
            [2, 3, 9, 10, 13, 14, 15, 73, 74, 81, 82])
          (Stmt.seq
            (Stmt.region
              [SOper.mk (some 85) none (SOp.fld 2 (Operand.tmp 2)),
                SOper.mk (some 86) none (SOp.load false 1 (Operand.tmp 85)),
                SOper.mk (some 87) none (SOp.idx 1 (Operand.tmp 86) (Operand.const (Value.int IntKind.i64 0))),
                SOper.mk (some 88) none (SOp.load false 1 (Operand.tmp 87)),
                SOper.mk (some 89) none (SOp.len false (Operand.tmp 88)),
                SOper.mk (some 90) none (SOp.mv (Operand.const (Value.int IntKind.i64 0)))]
              [2, 3, 9, 10, 13, 14, 15, 73, 74, 81, 82, 89, 90])
            (Stmt.block 10 (Stmt.loop S53_7 [13, 90] [2, 3, 9, 10, 14, 15, 73, 74, 81, 82, 89])))))
      (Stmt.region
        [SOper.mk (some 126) none (SOp.ibin BinOp.add (Operand.tmp 82) (Operand.const (Value.int IntKind.i64 1))),
          SOper.mk (some 82) none (SOp.mv (Operand.tmp 126))]
        [2, 3, 9, 10, 13, 14, 73, 74, 81, 82])))
def S53_9 : Stmt :=
  Stmt.seq
  (Stmt.region [SOper.mk (some 75) none (SOp.ibin BinOp.lss (Operand.tmp 74) (Operand.tmp 73))]
    [2, 3, 9, 10, 13, 73, 74, 75])
  (Stmt.seq (Stmt.cond (Operand.tmp 75) Stmt.skip (Stmt.exit 6))
    (Stmt.seq
      (Stmt.block 7
        (Stmt.seq
          (Stmt.region
            [SOper.mk (some 76) none (SOp.mv (Operand.tmp 74)), SOper.mk (some 14) none (SOp.mv (Operand.tmp 76))]
            [2, 3, 9, 10, 13, 14, 73, 74])
          (Stmt.seq
            (Stmt.region
              [SOper.mk (some 77) none (SOp.mv (Operand.tmp 10)), SOper.mk (some 78) none (SOp.mv (Operand.tmp 14)),
                SOper.mk (some 79) none (SOp.idx 1 (Operand.tmp 77) (Operand.tmp 78)),
                SOper.mk (some 80) none (SOp.load false 1 (Operand.tmp 79)),
                SOper.mk (some 81) none (SOp.len false (Operand.tmp 80)),
                SOper.mk (some 82) none (SOp.mv (Operand.const (Value.int IntKind.i64 0)))]
              [2, 3, 9, 10, 13, 14, 73, 74, 81, 82])
            (Stmt.block 8 (Stmt.loop S53_8 [13, 82] [2, 3, 9, 10, 14, 73, 74, 81])))))
      (Stmt.region
        [SOper.mk (some 127) none (SOp.ibin BinOp.add (Operand.tmp 74) (Operand.const (Value.int IntKind.i64 1))),
          SOper.mk (some 74) none (SOp.mv (Operand.tmp 127))]
        [2, 3, 9, 10, 13, 73, 74])))
def S53_10 : Stmt :=
  Stmt.seq
  (Stmt.seq (Stmt.region [SOper.mk (some 71) none (SOp.mv (Operand.tmp 13))] [2, 3, 9, 10, 71])
    (Stmt.cond (Operand.tmp 71) Stmt.skip (Stmt.exit 4)))
  (Stmt.block 5
    (Stmt.seq (Stmt.region [SOper.mk (some 13) none (SOp.mv (Operand.const (Value.bool false)))] [2, 3, 9, 10, 13])
      (Stmt.seq
        (Stmt.region
          [SOper.mk (some 72) none (SOp.mv (Operand.tmp 10)), SOper.mk (some 73) none (SOp.len false (Operand.tmp 72)),
            SOper.mk (some 74) none (SOp.mv (Operand.const (Value.int IntKind.i64 0)))]
          [2, 3, 9, 10, 13, 73, 74])
        (Stmt.block 6 (Stmt.loop S53_9 [13, 74] [2, 3, 9, 10, 73])))))
def S53_11 : Stmt :=
  Stmt.seq
  (Stmt.region [SOper.mk (some 154) none (SOp.ibin BinOp.lss (Operand.tmp 153) (Operand.tmp 152))]
    [2, 3, 9, 10, 18, 19, 20, 152, 153, 154])
  (Stmt.seq (Stmt.cond (Operand.tmp 154) Stmt.skip (Stmt.exit 14))
    (Stmt.seq
      (Stmt.block 15
        (Stmt.seq
          (Stmt.region
            [SOper.mk (some 155) none (SOp.mv (Operand.tmp 153)), SOper.mk (some 21) none (SOp.mv (Operand.tmp 155))]
            [2, 3, 9, 10, 18, 19, 20, 21, 152, 153])
          (Stmt.seq
            (Stmt.drawn
              [(false, SOper.mk (some 156) none (SOp.mv (Operand.tmp 9))),
                (false, SOper.mk (some 157) none (SOp.load true 3 (Operand.tmp 2))),
                (false, SOper.mk (some 158) none (SOp.mv (Operand.tmp 18))),
                (false, SOper.mk (some 159) none (SOp.mv (Operand.tmp 21))),
                (false, SOper.mk (some 161) none (SOp.mv (Operand.tmp 9))),
                (true, SOper.mk (some 162) none (SOp.load true 3 (Operand.tmp 3))),
                (false, SOper.mk (some 163) none (SOp.mv (Operand.tmp 19))),
                (false, SOper.mk (some 164) none (SOp.mv (Operand.tmp 21))),
                (false,
                  SOper.mk (some 160) none
                    (SOp.call (Operand.tmp 156) [Operand.tmp 157, Operand.tmp 158, Operand.tmp 159])),
                (false,
                  SOper.mk (some 165) none
                    (SOp.call (Operand.tmp 161) [Operand.tmp 162, Operand.tmp 163, Operand.tmp 164])),
                (false, SOper.mk (some 22) none (SOp.mv (Operand.tmp 160))),
                (false, SOper.mk (some 23) none (SOp.mv (Operand.tmp 165)))]
              [2, 3, 9, 10, 18, 19, 20, 21, 22, 23, 152, 153])
            (Stmt.seq
              (Stmt.quiet
                [SOper.mk (some 166) none (SOp.mv (Operand.tmp 10)), SOper.mk (some 167) none (SOp.mv (Operand.tmp 22)),
                  SOper.mk (some 168) none (SOp.idx 1 (Operand.tmp 166) (Operand.tmp 167)),
                  SOper.mk (some 169) none (SOp.load false 1 (Operand.tmp 168)),
                  SOper.mk (some 170) none (SOp.mv (Operand.tmp 23)),
                  SOper.mk (some 171) none (SOp.idx 1 (Operand.tmp 169) (Operand.tmp 170)),
                  SOper.mk (some 172) none (SOp.load false 1 (Operand.tmp 171)),
                  SOper.mk (some 173) none (SOp.mv (Operand.tmp 10)),
                  SOper.mk (some 174) none (SOp.mv (Operand.tmp 18)),
                  SOper.mk (some 175) none (SOp.idx 1 (Operand.tmp 173) (Operand.tmp 174)),
                  SOper.mk (some 176) none (SOp.load false 1 (Operand.tmp 175)),
                  SOper.mk (some 177) none (SOp.mv (Operand.tmp 19)),
                  SOper.mk (some 178) none (SOp.idx 1 (Operand.tmp 176) (Operand.tmp 177)),
                  SOper.mk (some 179) none (SOp.load false 1 (Operand.tmp 178)),
                  SOper.mk (some 180) none
                    (SOp.ibin BinOp.sub (Operand.tmp 179) (Operand.const (Value.int IntKind.i64 1))),
                  SOper.mk (some 181) none (SOp.ibin BinOp.eql (Operand.tmp 172) (Operand.tmp 180))]
                [2, 3, 9, 10, 18, 19, 20, 21, 22, 23, 152, 153, 181])
              (Stmt.cond (Operand.tmp 181)
                (Stmt.seq
                  (Stmt.region
                    [SOper.mk (some 182) none (SOp.mv (Operand.tmp 20)),
                      SOper.mk (some 183) none (SOp.mv (Operand.tmp 21)),
                      SOper.mk (some 184) none (SOp.buildS 3 1 [Value.int IntKind.i64 0] [(0, 1, Operand.tmp 183)]),
                      SOper.mk (some 185) none
                        (SOp.append 29 3 1 8 (Value.int IntKind.i64 0) (Operand.tmp 182) (Operand.tmp 184)),
                      SOper.mk (some 20) none (SOp.mv (Operand.tmp 185))]
                    [2, 3, 9, 10, 20, 22, 23])
                  (Stmt.seq
                    (Stmt.region
                      [SOper.mk (some 186) none (SOp.mv (Operand.tmp 22)),
                        SOper.mk (some 187) none (SOp.mv (Operand.tmp 23)),
                        SOper.mk (some 18) none (SOp.mv (Operand.tmp 186)),
                        SOper.mk (some 19) none (SOp.mv (Operand.tmp 187))]
                      [2, 3, 9, 10, 18, 19, 20])
                    (Stmt.exit 14)))
                Stmt.skip)))))
      (Stmt.region
        [SOper.mk (some 188) none (SOp.ibin BinOp.add (Operand.tmp 153) (Operand.const (Value.int IntKind.i64 1))),
          SOper.mk (some 153) none (SOp.mv (Operand.tmp 188))]
        [2, 3, 9, 10, 18, 19, 20, 152, 153])))
def S53_12 : Stmt :=
  Stmt.seq
  (Stmt.seq
    (Stmt.region
      [SOper.mk (some 140) none (SOp.mv (Operand.tmp 10)), SOper.mk (some 141) none (SOp.mv (Operand.tmp 18)),
        SOper.mk (some 142) none (SOp.idx 1 (Operand.tmp 140) (Operand.tmp 141)),
        SOper.mk (some 143) none (SOp.load false 1 (Operand.tmp 142)),
        SOper.mk (some 144) none (SOp.mv (Operand.tmp 19)),
        SOper.mk (some 145) none (SOp.idx 1 (Operand.tmp 143) (Operand.tmp 144)),
        SOper.mk (some 146) none (SOp.load false 1 (Operand.tmp 145)),
        SOper.mk (some 147) none (SOp.ibin BinOp.gtr (Operand.tmp 146) (Operand.const (Value.int IntKind.i64 0)))]
      [2, 3, 9, 10, 18, 19, 20, 147])
    (Stmt.cond (Operand.tmp 147) Stmt.skip (Stmt.exit 12)))
  (Stmt.block 13
    (Stmt.seq
      (Stmt.region
        [SOper.mk (some 148) none (SOp.fld 2 (Operand.tmp 2)),
          SOper.mk (some 149) none (SOp.load false 1 (Operand.tmp 148)),
          SOper.mk (some 150) none (SOp.idx 1 (Operand.tmp 149) (Operand.const (Value.int IntKind.i64 0))),
          SOper.mk (some 151) none (SOp.load false 1 (Operand.tmp 150)),
          SOper.mk (some 152) none (SOp.len false (Operand.tmp 151)),
          SOper.mk (some 153) none (SOp.mv (Operand.const (Value.int IntKind.i64 0)))]
        [2, 3, 9, 10, 18, 19, 20, 152, 153])
      (Stmt.block 14 (Stmt.loop S53_11 [18, 19, 20, 153] [2, 3, 9, 10, 152]))))
def S53_0 : Stmt :=
  Stmt.seq
  (Stmt.region
    [SOper.mk (some 2) none (SOp.box true 67 (Operand.tmp 0)), SOper.mk (some 3) none (SOp.box true 67 (Operand.tmp 1)),
      SOper.mk (some 4) none (SOp.mv (Operand.const (Value.slice none 0 0))),
      SOper.mk (some 5) none (SOp.mv (Operand.const (Value.bool false)))]
    [2, 3])
  (Stmt.seq
    (Stmt.quiet
      [SOper.mk (some 24) none (SOp.fld 2 (Operand.tmp 2)), SOper.mk (some 25) none (SOp.load false 1 (Operand.tmp 24)),
        SOper.mk (some 26) none (SOp.len false (Operand.tmp 25)),
        SOper.mk (some 27) none (SOp.ibin BinOp.add (Operand.tmp 26) (Operand.const (Value.int IntKind.i64 1))),
        SOper.mk (some 28) none (SOp.fld 2 (Operand.tmp 3)),
        SOper.mk (some 29) none (SOp.load false 1 (Operand.tmp 28)),
        SOper.mk (some 30) none (SOp.len false (Operand.tmp 29)),
        SOper.mk (some 31) none (SOp.ibin BinOp.add (Operand.tmp 30) (Operand.const (Value.int IntKind.i64 1))),
        SOper.mk (some 6) none (SOp.mv (Operand.tmp 27)), SOper.mk (some 7) none (SOp.mv (Operand.tmp 31))]
      [2, 3, 6, 7])
    (Stmt.seq (Stmt.region [SOper.mk (some 8) none (SOp.mv (Operand.func 118))] [2, 3, 6, 7, 8])
      (Stmt.seq (Stmt.region [SOper.mk (some 9) none (SOp.mv (Operand.func 119))] [2, 3, 6, 7, 8, 9])
        (Stmt.seq
          (Stmt.region
            [SOper.mk (some 32) none (SOp.mv (Operand.tmp 6)), SOper.mk (some 33) none (SOp.mv (Operand.tmp 7)),
              SOper.mk (some 34) none (SOp.call (Operand.func 120) [Operand.tmp 32, Operand.tmp 33]),
              SOper.mk (some 10) none (SOp.mv (Operand.tmp 34))]
            [2, 3, 8, 9, 10])
          (Stmt.seq
            (Stmt.seq
              (Stmt.region
                [SOper.mk (some 35) none (SOp.mv (Operand.tmp 10)),
                  SOper.mk (some 36) none (SOp.len false (Operand.tmp 35)),
                  SOper.mk (some 37) none (SOp.mv (Operand.const (Value.int IntKind.i64 0)))]
                [2, 3, 8, 9, 10, 36, 37])
              (Stmt.block 0 (Stmt.loop S53_4 [37] [2, 3, 8, 9, 10, 36])))
            (Stmt.seq
              (Stmt.seq
                (Stmt.region [SOper.mk (some 13) none (SOp.mv (Operand.const (Value.bool true)))] [2, 3, 9, 10, 13])
                (Stmt.block 4 (Stmt.loop S53_10 [13] [2, 3, 9, 10])))
              (Stmt.seq
                (Stmt.quiet
                  [SOper.mk (some 128) none (SOp.fld 0 (Operand.tmp 2)),
                    SOper.mk (some 129) none (SOp.load false 1 (Operand.tmp 128)),
                    SOper.mk (some 130) none (SOp.fld 0 (Operand.tmp 3)),
                    SOper.mk (some 131) none (SOp.load false 1 (Operand.tmp 130)),
                    SOper.mk (some 18) none (SOp.mv (Operand.tmp 129)),
                    SOper.mk (some 19) none (SOp.mv (Operand.tmp 131))]
                  [2, 3, 9, 10, 18, 19])
                (Stmt.seq
                  (Stmt.seq
                    (Stmt.region
                      [SOper.mk (some 132) none (SOp.mv (Operand.tmp 10)),
                        SOper.mk (some 133) none (SOp.mv (Operand.tmp 18)),
                        SOper.mk (some 134) none (SOp.idx 1 (Operand.tmp 132) (Operand.tmp 133)),
                        SOper.mk (some 135) none (SOp.load false 1 (Operand.tmp 134)),
                        SOper.mk (some 136) none (SOp.mv (Operand.tmp 19)),
                        SOper.mk (some 137) none (SOp.idx 1 (Operand.tmp 135) (Operand.tmp 136)),
                        SOper.mk (some 138) none (SOp.load false 1 (Operand.tmp 137)),
                        SOper.mk (some 139) none
                          (SOp.ibin BinOp.geq (Operand.tmp 138) (Operand.const (Value.int IntKind.i64 1099511627776)))]
                      [2, 3, 9, 10, 18, 19, 139])
                    (Stmt.cond (Operand.tmp 139)
                      (Stmt.seq
                        (Stmt.region
                          [SOper.mk (some 4) none (SOp.mv (Operand.const (Value.slice none 0 0))),
                            SOper.mk (some 5) none (SOp.mv (Operand.const (Value.bool false)))]
                          [4, 5])
                        Stmt.ret)
                      Stmt.skip))
                  (Stmt.seq
                    (Stmt.region [SOper.mk (some 20) none (SOp.mv (Operand.const (Value.slice none 0 0)))]
                      [2, 3, 9, 10, 18, 19, 20])
                    (Stmt.seq (Stmt.block 12 (Stmt.loop S53_12 [18, 19, 20] [2, 3, 9, 10]))
                      (Stmt.seq
                        (Stmt.region
                          [SOper.mk (some 189) none (SOp.mv (Operand.tmp 20)),
                            SOper.mk (some 4) none (SOp.mv (Operand.tmp 189)),
                            SOper.mk (some 5) none (SOp.mv (Operand.const (Value.bool true)))]
                          [4, 5])
                        Stmt.ret)))))))))))
def S53 : FnS := ⟨190, [(4, none), (5, none)], S53_0⟩
theorem tr53 : trFn Try.prog 53 [2, 3] [[2, 3], [2, 3, 6, 7], [2, 3, 6, 7, 8], [2, 3, 6, 7, 8, 9], [2, 3, 8, 9, 10], [2, 3, 8, 9, 10, 36, 37], [37], [2, 3, 8, 9, 10, 36], [2, 3, 8, 9, 10, 36, 37, 38], [2, 3, 8, 9, 10, 11, 36, 37], [2, 3, 8, 9, 10, 11, 36, 37, 44, 45], [45], [2, 3, 8, 9, 10, 11, 36, 37, 44], [2, 3, 8, 9, 10, 11, 36, 37, 44, 45, 46], [], [2, 3, 8, 9, 10, 11, 36, 37, 44, 45], [2, 3, 8, 9, 10, 11, 12, 36, 37, 44, 45], [2, 3, 8, 9, 10, 11, 12, 36, 37, 44, 45], [2, 3, 8, 9, 10, 11, 12, 36, 37, 44, 45, 62], [0, 1, 2, 4, 5, 6, 3, 7, 8], [5], [], [], [], [0, 1, 2], [], [], [], [0, 1, 2, 3, 4, 5, 6], [0, 1, 2, 3, 4, 5, 6, 7], [2, 3, 8, 9, 10, 11, 36, 37, 44, 45], [2, 3, 8, 9, 10, 11, 36, 37, 44, 45], [2, 3, 8, 9, 10, 36, 37], [2, 3, 9, 10, 13], [13], [2, 3, 9, 10], [2, 3, 9, 10, 71], [2, 3, 9, 10, 13], [2, 3, 9, 10, 13, 73, 74], [13, 74], [2, 3, 9, 10, 73], [2, 3, 9, 10, 13, 73, 74, 75], [2, 3, 9, 10, 13, 14, 73, 74], [2, 3, 9, 10, 13, 14, 73, 74, 81, 82], [13, 82], [2, 3, 9, 10, 14, 73, 74, 81], [2, 3, 9, 10, 13, 14, 73, 74, 81, 82, 83], [2, 3, 9, 10, 13, 14, 15, 73, 74, 81, 82], [2, 3, 9, 10, 13, 14, 15, 73, 74, 81, 82, 89, 90], [13, 90], [2, 3, 9, 10, 14, 15, 73, 74, 81, 82, 89], [2, 3, 9, 10, 13, 14, 15, 73, 74, 81, 82, 89, 90, 91], [13], [2, 3, 9, 10, 14, 15, 73, 74, 81, 82, 89, 90], [2, 3, 9, 10, 13, 14, 15, 16, 73, 74, 81, 82, 89, 90], [2, 3, 9, 10, 13, 14, 15, 17, 73, 74, 81, 82, 89, 90], [0, 1, 2, 3, 4, 8, 9, 10, 11, 5, 6, 7, 12, 13, 14, 15, 16], [7, 9], [], [], [], [], [], [1, 2, 3, 4], [0, 1, 2, 3, 4, 5], [0, 1, 2, 3, 4, 5, 6], [], [], [], [], [1, 2, 3, 4, 5, 8, 9, 10, 11], [0, 1, 2, 3, 4, 5, 6, 7, 8, 9, 10, 11, 12], [0, 1, 2, 3, 4, 5, 6, 7, 8, 9, 10, 11, 12, 13], [0, 1, 2, 3, 4, 5, 6, 7, 8, 9, 10, 11, 12, 13, 14], [0, 1, 2, 3, 4, 5, 6, 7, 8, 9, 10, 11, 12, 13, 14, 15], [2, 3, 9, 10, 13, 14, 15, 17, 73, 74, 81, 82, 89, 90, 117], [2, 3, 9, 10, 13, 14, 15, 73, 74, 81, 82, 89, 90], [2, 3, 9, 10, 13, 14, 15, 73, 74, 81, 82, 89, 90], [2, 3, 9, 10, 13, 14, 73, 74, 81, 82], [2, 3, 9, 10, 13, 73, 74], [2, 3, 9, 10, 18, 19], [2, 3, 9, 10, 18, 19, 139], [4, 5], [2, 3, 9, 10, 18, 19, 20], [18, 19, 20], [2, 3, 9, 10], [2, 3, 9, 10, 18, 19, 20, 147], [2, 3, 9, 10, 18, 19, 20, 152, 153], [18, 19, 20, 153], [2, 3, 9, 10, 152], [2, 3, 9, 10, 18, 19, 20, 152, 153, 154], [2, 3, 9, 10, 18, 19, 20, 21, 152, 153], [2, 3, 9, 10, 18, 19, 20, 21, 22, 23, 152, 153], [0, 1, 2, 3, 5, 6, 7, 8, 4, 9, 10, 11], [6], [], [], [], [], [0, 1, 2, 3], [], [], [], [], [0, 1, 2, 3, 4, 5, 6, 7, 8], [0, 1, 2, 3, 4, 5, 6, 7, 8, 9], [0, 1, 2, 3, 4, 5, 6, 7, 8, 9, 10], [2, 3, 9, 10, 18, 19, 20, 21, 22, 23, 152, 153, 181], [2, 3, 9, 10, 20, 22, 23], [2, 3, 9, 10, 18, 19, 20], [2, 3, 9, 10, 18, 19, 20, 152, 153], [4, 5]] = some S53 := by kernel_rfl
end Go.Proofs.Ytniobbepliknmaa.V
