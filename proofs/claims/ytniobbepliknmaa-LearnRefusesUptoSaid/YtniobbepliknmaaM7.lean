/- Texts put together, in the order in which they build; each says what it proves; no condition. -/
import Derived.Test.YtniobbepliknmaaM2
import Derived.Test.YtniobbepliknmaaProg
import Derived.Test.YtniobbepliknmaaM6
/- The text of (*parlance/learn.table).split as a statement (slots: 0 t, 1 w, 2 t, 3 w, 4 d, 5 s, 6 i, 7 x); no condition. -/
namespace Go.Proofs.Ytniobbepliknmaa.V
open Go
def S160_1 : Stmt :=
  Stmt.seq
  (Stmt.region [SOper.mk (some 13) none (SOp.ibin BinOp.lss (Operand.tmp 12) (Operand.tmp 11))]
    [0, 1, 4, 5, 10, 11, 12, 13])
  (Stmt.seq (Stmt.cond (Operand.tmp 13) Stmt.skip (Stmt.exit 0))
    (Stmt.seq
      (Stmt.block 1
        (Stmt.seq
          (Stmt.region
            [SOper.mk (some 14) none (SOp.mv (Operand.tmp 12)),
              SOper.mk (some 15) none (SOp.idx 1 (Operand.tmp 10) (Operand.tmp 12)),
              SOper.mk (some 16) none (SOp.load false 1 (Operand.tmp 15)),
              SOper.mk (some 6) none (SOp.mv (Operand.tmp 14)), SOper.mk (some 7) none (SOp.mv (Operand.tmp 16))]
            [0, 1, 4, 5, 6, 7, 10, 11, 12])
          (Stmt.seq
            (Stmt.seq
              (Stmt.drawn
                [(false, SOper.mk (some 17) none (SOp.mv (Operand.tmp 0))),
                  (false, SOper.mk (some 18) none (SOp.mv (Operand.tmp 0))),
                  (false, SOper.mk (some 19) none (SOp.nilCheck (Operand.tmp 18))),
                  (false, SOper.mk (some 20) none (SOp.fld 3 (Operand.tmp 19))),
                  (false, SOper.mk (some 21) none (SOp.load false 1 (Operand.tmp 20))),
                  (false, SOper.mk (some 22) none (SOp.fld 2 (Operand.tmp 4))),
                  (false, SOper.mk (some 23) none (SOp.load false 1 (Operand.tmp 22))),
                  (false, SOper.mk (some 24) none (SOp.mv (Operand.tmp 5))),
                  (false, SOper.mk (some 25) none (SOp.idx 1 (Operand.tmp 23) (Operand.tmp 24))),
                  (false, SOper.mk (some 26) none (SOp.load false 1 (Operand.tmp 25))),
                  (false, SOper.mk (some 27) none (SOp.mv (Operand.tmp 7))),
                  (false, SOper.mk (some 28) none (SOp.idx 1 (Operand.tmp 26) (Operand.tmp 27))),
                  (false, SOper.mk (some 29) none (SOp.load false 1 (Operand.tmp 28))),
                  (false, SOper.mk (some 30) none (SOp.idx 1 (Operand.tmp 21) (Operand.tmp 29))),
                  (false, SOper.mk (some 31) none (SOp.load false 1 (Operand.tmp 30))),
                  (false, SOper.mk (some 33) none (SOp.mv (Operand.tmp 1))),
                  (false, SOper.mk (some 34) none (SOp.mv (Operand.tmp 6))),
                  (false,
                    SOper.mk (some 35) none
                      (SOp.ibin BinOp.add (Operand.tmp 34) (Operand.const (Value.int IntKind.i64 1)))),
                  (false, SOper.mk (some 36) none (SOp.slc 1 (Operand.tmp 33) (some (Operand.tmp 35)) none none)),
                  (false, SOper.mk (some 39) none (SOp.mv (Operand.tmp 0))),
                  (false, SOper.mk (some 40) none (SOp.mv (Operand.tmp 0))),
                  (false, SOper.mk (some 41) none (SOp.nilCheck (Operand.tmp 40))),
                  (false, SOper.mk (some 42) none (SOp.fld 3 (Operand.tmp 41))),
                  (true, SOper.mk (some 43) none (SOp.load false 1 (Operand.tmp 42))),
                  (false, SOper.mk (some 44) none (SOp.mv (Operand.tmp 5))),
                  (false, SOper.mk (some 45) none (SOp.idx 1 (Operand.tmp 43) (Operand.tmp 44))),
                  (true, SOper.mk (some 46) none (SOp.load false 1 (Operand.tmp 45))),
                  (false, SOper.mk (some 48) none (SOp.mv (Operand.tmp 1))),
                  (false, SOper.mk (some 49) none (SOp.mv (Operand.tmp 6))),
                  (false, SOper.mk (some 50) none (SOp.slc 1 (Operand.tmp 48) (some (Operand.tmp 49)) none none)),
                  (false,
                    SOper.mk (some 32) none
                      (SOp.append 29 3 1 8 (Value.int IntKind.i64 0) (Operand.const (Value.slice none 0 0))
                        (Operand.tmp 31))),
                  (false,
                    SOper.mk (some 37) none
                      (SOp.append 29 3 1 8 (Value.int IntKind.i64 0) (Operand.tmp 32) (Operand.tmp 36))),
                  (false, SOper.mk (some 38) none (SOp.call (Operand.func 159) [Operand.tmp 17, Operand.tmp 37])),
                  (false,
                    SOper.mk (some 47) none
                      (SOp.append 29 3 1 8 (Value.int IntKind.i64 0) (Operand.const (Value.slice none 0 0))
                        (Operand.tmp 46))),
                  (false,
                    SOper.mk (some 51) none
                      (SOp.append 29 3 1 8 (Value.int IntKind.i64 0) (Operand.tmp 47) (Operand.tmp 50))),
                  (false, SOper.mk (some 52) none (SOp.call (Operand.func 159) [Operand.tmp 39, Operand.tmp 51])),
                  (false, SOper.mk (some 53) none (SOp.beq true (Operand.tmp 38) (Operand.tmp 52)))]
                [0, 1, 4, 5, 6, 7, 10, 11, 12, 53])
              (Stmt.cond (Operand.tmp 53)
                (Stmt.seq
                  (Stmt.tree
                    (DT.q (false, SOper.mk (some 54) none (SOp.mv (Operand.tmp 0)))
                      (DT.q (false, SOper.mk (some 55) none (SOp.mv (Operand.tmp 0)))
                        (DT.q (false, SOper.mk (some 59) none (SOp.mv (Operand.tmp 1)))
                          (DT.q (false, SOper.mk (some 60) none (SOp.mv (Operand.tmp 6)))
                            (DT.q (false, SOper.mk (some 56) none (SOp.nilCheck (Operand.tmp 55)))
                              (DT.q
                                (false,
                                  SOper.mk (some 61) none
                                    (SOp.ibin BinOp.add (Operand.tmp 60) (Operand.const (Value.int IntKind.i64 1))))
                                (DT.q (false, SOper.mk (some 57) none (SOp.fld 4 (Operand.tmp 56)))
                                  (DT.q
                                    (false,
                                      SOper.mk (some 62) none
                                        (SOp.slc 1 (Operand.tmp 59) (some (Operand.tmp 61)) none none))
                                    (DT.alt (false, SOper.mk (some 58) none (SOp.load false 1 (Operand.tmp 57)))
                                      (DT.alt
                                        (false,
                                          SOper.mk (some 63) none
                                            (SOp.append 29 3 1 8 (Value.int IntKind.i64 0)
                                              (Operand.const (Value.slice none 0 0)) (Operand.tmp 62)))
                                        (DT.alt
                                          (false,
                                            SOper.mk (some 64) none
                                              (SOp.buildS 29 1 [Value.slice none 0 0] [(0, 1, Operand.tmp 63)]))
                                          (DT.alt
                                            (false,
                                              SOper.mk (some 65) none
                                                (SOp.append 65 29 1 24 (Value.slice none 0 0) (Operand.tmp 58)
                                                  (Operand.tmp 64)))
                                            (DT.q (false, SOper.mk (some 66) none (SOp.nilCheck (Operand.tmp 54)))
                                              (DT.q (false, SOper.mk (some 67) none (SOp.fld 4 (Operand.tmp 66)))
                                                (DT.alt
                                                  (false,
                                                    SOper.mk none none (SOp.store 1 (Operand.tmp 67) (Operand.tmp 65)))
                                                  DT.fin DT.no)))
                                            DT.no)
                                          DT.no)
                                        DT.no)
                                      (DT.alt
                                        (false,
                                          SOper.mk (some 63) none
                                            (SOp.append 29 3 1 8 (Value.int IntKind.i64 0)
                                              (Operand.const (Value.slice none 0 0)) (Operand.tmp 62)))
                                        (DT.alt (false, SOper.mk (some 58) none (SOp.load false 1 (Operand.tmp 57)))
                                          (DT.alt
                                            (false,
                                              SOper.mk (some 64) none
                                                (SOp.buildS 29 1 [Value.slice none 0 0] [(0, 1, Operand.tmp 63)]))
                                            (DT.alt
                                              (false,
                                                SOper.mk (some 65) none
                                                  (SOp.append 65 29 1 24 (Value.slice none 0 0) (Operand.tmp 58)
                                                    (Operand.tmp 64)))
                                              (DT.q (false, SOper.mk (some 66) none (SOp.nilCheck (Operand.tmp 54)))
                                                (DT.q (false, SOper.mk (some 67) none (SOp.fld 4 (Operand.tmp 66)))
                                                  (DT.alt
                                                    (false,
                                                      SOper.mk none none
                                                        (SOp.store 1 (Operand.tmp 67) (Operand.tmp 65)))
                                                    DT.fin DT.no)))
                                              DT.no)
                                            DT.no)
                                          (DT.alt
                                            (false,
                                              SOper.mk (some 64) none
                                                (SOp.buildS 29 1 [Value.slice none 0 0] [(0, 1, Operand.tmp 63)]))
                                            (DT.alt (false, SOper.mk (some 58) none (SOp.load false 1 (Operand.tmp 57)))
                                              (DT.alt
                                                (false,
                                                  SOper.mk (some 65) none
                                                    (SOp.append 65 29 1 24 (Value.slice none 0 0) (Operand.tmp 58)
                                                      (Operand.tmp 64)))
                                                (DT.q (false, SOper.mk (some 66) none (SOp.nilCheck (Operand.tmp 54)))
                                                  (DT.q (false, SOper.mk (some 67) none (SOp.fld 4 (Operand.tmp 66)))
                                                    (DT.alt
                                                      (false,
                                                        SOper.mk none none
                                                          (SOp.store 1 (Operand.tmp 67) (Operand.tmp 65)))
                                                      DT.fin DT.no)))
                                                DT.no)
                                              DT.no)
                                            DT.no))
                                        DT.no))))))))))
                    [])
                  Stmt.ret)
                Stmt.skip))
            (Stmt.region
              [SOper.mk (some 68) none (SOp.fld 2 (Operand.tmp 4)),
                SOper.mk (some 69) none (SOp.load false 1 (Operand.tmp 68)),
                SOper.mk (some 70) none (SOp.mv (Operand.tmp 5)),
                SOper.mk (some 71) none (SOp.idx 1 (Operand.tmp 69) (Operand.tmp 70)),
                SOper.mk (some 72) none (SOp.load false 1 (Operand.tmp 71)),
                SOper.mk (some 73) none (SOp.mv (Operand.tmp 7)),
                SOper.mk (some 74) none (SOp.idx 1 (Operand.tmp 72) (Operand.tmp 73)),
                SOper.mk (some 75) none (SOp.load false 1 (Operand.tmp 74)),
                SOper.mk (some 5) none (SOp.mv (Operand.tmp 75))]
              [0, 1, 4, 5, 10, 11, 12]))))
      (Stmt.region
        [SOper.mk (some 76) none (SOp.ibin BinOp.add (Operand.tmp 12) (Operand.const (Value.int IntKind.i64 1))),
          SOper.mk (some 12) none (SOp.mv (Operand.tmp 76))]
        [0, 1, 4, 5, 10, 11, 12])))
def S160_0 : Stmt :=
  Stmt.seq
  (Stmt.region
    [SOper.mk (some 8) none (SOp.mv (Operand.tmp 0)),
      SOper.mk (some 9) none (SOp.call (Operand.func 156) [Operand.tmp 8]),
      SOper.mk (some 4) none
        (SOp.alloc true 67
          (Value.agg (Array.mk [Value.int IntKind.i64 0, Value.slice none 0 0, Value.slice none 0 0]))),
      SOper.mk none none (SOp.store 3 (Operand.tmp 4) (Operand.tmp 9))]
    [0, 1, 4])
  (Stmt.seq (Stmt.region [SOper.mk (some 5) none (SOp.mv (Operand.const (Value.int IntKind.i64 0)))] [0, 1, 4, 5])
    (Stmt.seq
      (Stmt.region
        [SOper.mk (some 10) none (SOp.mv (Operand.tmp 1)), SOper.mk (some 11) none (SOp.len false (Operand.tmp 10)),
          SOper.mk (some 12) none (SOp.mv (Operand.const (Value.int IntKind.i64 0)))]
        [0, 1, 4, 5, 10, 11, 12])
      (Stmt.block 0 (Stmt.loop S160_1 [5, 12] [0, 1, 4, 10, 11]))))
def S160 : FnS := ⟨77, [], S160_0⟩
theorem tr160 : trFn Try.prog 160 [4] [[0, 1, 4], [0, 1, 4, 5], [0, 1, 4, 5, 10, 11, 12], [5, 12], [0, 1, 4, 10, 11], [0, 1, 4, 5, 10, 11, 12, 13], [0, 1, 4, 5, 6, 7, 10, 11, 12], [0, 1, 4, 5, 6, 7, 10, 11, 12, 53], [0, 1, 2, 3, 4, 5, 6, 7, 8, 9, 10, 11, 12, 13, 14, 16, 17, 18, 19, 22, 23, 24, 25, 26, 27, 28, 29, 31, 32, 33, 15, 20, 21, 30, 34, 35, 36], [26, 29], [], [], [1], [1, 2], [1, 2, 3], [], [5], [], [5, 6, 7], [5, 6, 7, 8], [], [5, 6, 7, 8, 9, 10], [5, 6, 7, 8, 9, 10, 11], [1, 2, 3, 4, 5, 6, 7, 8, 9, 10, 11, 12], [1, 2, 3, 4, 5, 6, 7, 8, 9, 10, 11, 12, 13], [1, 2, 3, 4, 5, 6, 7, 8, 9, 10, 11, 12, 13, 14], [], [], [17], [16, 17, 18], [1, 2, 3, 4, 5, 6, 7, 8, 9, 10, 11, 12, 13, 14, 15, 16, 17, 18, 19], [0, 1, 2, 3, 4, 5, 6, 7, 8, 9, 10, 11, 12, 13, 14, 15, 16, 17, 18, 19, 20], [], [], [23], [23, 24], [23, 24, 25], [], [23, 24, 25, 26, 27], [23, 24, 25, 26, 27, 28], [0, 1, 2, 3, 4, 5, 6, 7, 8, 9, 10, 11, 12, 13, 14, 15, 16, 17, 18, 19, 20, 21, 23, 24, 25, 26, 27, 28, 29], [], [], [31, 32], [0, 1, 2, 3, 4, 5, 6, 7, 8, 9, 10, 11, 12, 13, 14, 15, 16, 17, 18, 19, 20, 21, 23, 24, 25, 26, 27, 28, 29, 30, 31, 32, 33], [0, 1, 2, 3, 4, 5, 6, 7, 8, 9, 10, 11, 12, 13, 14, 15, 16, 17, 18, 19, 20, 21, 22, 23, 24, 25, 26, 27, 28, 29, 30, 31, 32, 33, 34], [0, 1, 2, 3, 4, 5, 6, 7, 8, 9, 10, 11, 12, 13, 14, 15, 16, 17, 18, 19, 20, 21, 22, 23, 24, 25, 26, 27, 28, 29, 30, 31, 32, 33, 34, 35], [], [], [2, 0, 2, 1, 2, 5, 2, 6, 2, 2, 2, 7, 2, 3, 2, 8, 3, 4, 3, 9, 3, 10, 3, 11, 2, 12, 2, 13, 3, 14, 0, 1, 1, 1, 1, 3, 9, 3, 4, 3, 10, 3, 11, 2, 12, 2, 13, 3, 14, 0, 1, 1, 1, 3, 10, 3, 4, 3, 11, 2, 12, 2, 13, 3, 14, 0, 1, 1, 1, 1, 1], [], [], [], [1], [1, 2], [1, 2, 3], [], [], [6], [5, 6, 7], [5, 6, 7, 8], [5, 6, 7, 8, 9], [1, 2, 3, 4, 5, 6, 7, 8, 9, 10], [0, 1, 2, 3, 4, 5, 6, 7, 8, 9, 10, 11], [0, 1, 2, 3, 4, 5, 6, 7, 8, 9, 10, 11, 12], [0, 1, 2, 3, 4, 5, 6, 7, 8, 9, 10, 11, 12, 13], [0, 1, 4, 5, 10, 11, 12], [0, 1, 4, 5, 10, 11, 12]] = some S160 := by kernel_rfl
end Go.Proofs.Ytniobbepliknmaa.V
/- learn.table.split walked; no condition. -/
namespace Go.Proofs.Ytniobbepliknmaa.V
open Go
set_option linter.unusedVariables false
set_option linter.unusedSimpArgs false
attribute [local go_sem] e_seq e_region e_quiet e_join e_loop e_cond e_block e_exit e_ret e_skip e_fin e_kseq e_snrm e_sret e_sex e_bnrm e_bret e_bex e_rnrm e_rret e_res e_condC e_nil e_g e_mv g_mv e_pick g_pick pickC_eq e_ibin g_ibin ibinC_eq e_sbin g_sbin e_beq g_beq beqC_eq e_nilq g_nilq nilqC_sl nilqC_pt nilqC_mp e_un g_un unC_not unC_neg e_conv g_conv convC_eq e_fld g_fld fldC_ref fldC_ptr e_nilCheck g_nilCheck nilCheckC_ref nilCheckC_ptr nilCheckC_fun e_field g_field fieldC_eq e_len g_len lenC_sl lenC_str e_extract g_extract extractC_eq e_mkFunc e_build g_build e_idiv g_idiv idivC_eq e_ishift g_ishift ishiftC_eq e_idx g_idx e_idxA g_idxA e_load g_load e_loadB g_loadB atB_ref atB_v g_mkFunc loadC_ref loadC_ptr loadB_eq e_slc g_slc e_box boxC_loc boxC_esc e_alloc allocC_loc allocC_esc e_buildS e_store storeC_ref storeC_ptr storeB_eq e_append e_appz e_mk mkC_eq e_call callC_eq e_fn g_fn fnC_eq fnV_min' fnV_max' fnV_rune' e_q g_q e_a e_n g_call g_box g_alloc g_buildS g_store g_append g_mk g_a g_n g_dead e_dead e_callK e_drawn e_tree e_finJ e_tk e_tfin e_tno e_nbt_q e_nbt_qn e_nbt_a e_nbt_an e_nbt_fin e_drawnB e_bxb_nil e_bxb e_stB_none e_stB_some boxSt_store bs_mv bs_pick bs_ibin bs_idiv bs_ishift bs_sbin bs_beq bs_nilq bs_un bs_conv bs_box bs_alloc bs_build bs_buildS bs_load bs_fld bs_nilCheck bs_idx bs_idxA bs_field bs_slc bs_len bs_append bs_appz bs_mk bs_call bs_extract bs_mkFunc bs_fn bs_q bs_a bs_n bs_loadB bs_dead isBox_box e_early_nil e_early_t e_early_f e_nob_nil e_nob_none e_nob_some isBox_dead isBox_v isBox_ref e_dnil e_dk e_ek e_finB vcOps_vc1 e_dcons e_tq e_ekt e_tearly e_talt e_dearly look_nil look_c proj_nil proj_c looks_nil looks_c zip_nil zip_c val_tmp val_const val_func slv_v slv_box slv_ref slot_tmp slot_const slot_func slotL_v slotL_box slotL_ref put_some put_none updBox_c boxSet_box gd_eq slotVals_nil slotVals_c slotVals_b boxV_box boxOn_box slotsOn_nil slotsOn_c slotsOn_b resV_one resV_two vals_nil vals_c allOn_nil allOn_c partOn_nil partOn_c partVals_nil partVals_c fits_nil fits_c fillL_nil fillL_c mkv_one mkv_agg cellsV_agg cellsV_int cellsV_bool cellsV_slice cellsV_string cellsV_pointer cellsV_func cellsV_nilf cellsV_map one'_nil one'_c oc_int oc_bool oc_slice oc_string oc_pointer oc_func oc_nilf oc_map setC_eq iv_add iv_sub iv_mul iv_eql iv_neq iv_lss iv_leq iv_gtr iv_geq iok_add iok_sub iok_mul iok_eql iok_neq iok_lss iok_leq iok_gtr iok_geq pickV_bool args0_nil args0_c bnd_none bnd_some imp_bt imp_bf imp_ebt imp_ebf imp_eb1 imp_np imp_pp beq_tt beq_tf beq_ft beq_ff cond_or cond_and e_round e_meet Int.le_refl Int.toNat_zero decide_true decide_false Bool.or_false Bool.false_or Bool.true_or Bool.or_true Bool.and_false Bool.false_and Bool.bne_false Bool.bne_true beq_iff_eq Int.cast_ofNat_Int not_false_eq_true not_true_eq_false false_and and_false false_implies true_implies true_and and_true Bool.true_and Bool.and_true Bool.not_true Bool.not_false forall_const implies_true List.take_zero List.drop_zero List.take_succ_cons List.drop_succ_cons List.take_nil List.drop_nil List.length_cons List.length_nil List.nil_append List.append_nil List.cons_append Int.toNat_natCast decide_eq_true_eq decide_eq_false_iff_not cond_true cond_false and_self List.getElem?_cons_zero List.getElem?_cons_succ List.set_cons_zero List.set_cons_succ Option.some.injEq exists_eq_left' Nat.zero_add Nat.add_zero Nat.mul_one imp_self true_or or_true or_false false_or Bool.or_eq_true Bool.or_eq_false_iff Bool.and_eq_true Bool.and_eq_false_iff Bool.not_eq_true' Bool.not_eq_false'

theorem GuessL.same {L : List Int → Bool} {k : Nat} {ends rows : List (List Int)} {g g' : Da} (G : GuessL L k ends rows g) (G' : GuessL L k ends rows g') (T : TabL L k ends rows) : ∀ {w : List Int} {i : Nat}, i < rows.length → okK k w → tlN g i w = tlN g' i w
  | [], i, hi, _ => by
    show fA g i = fA g' i
    rw [G.acc (List.getElem?_eq_getElem hi), G'.acc (List.getElem?_eq_getElem hi)]
  | c :: w, i, hi, hw => by
    have hc := hw c (by simp)
    obtain ⟨m, rfl⟩ : ∃ m : Nat, c = m := ⟨c.toNat, by omega⟩
    obtain ⟨v, h1, h2, _⟩ := G.step T (List.getElem?_eq_getElem hi) (c := m) (by omega)
    obtain ⟨v', h1', h2', _⟩ := G'.step T (List.getElem?_eq_getElem hi) (c := m) (by omega)
    have e := T.dif _ _ v v' h1 h1' (h2.trans h2'.symm)
    rw [tlN_cons, tlN_cons, ← e]
    exact G.same G' T (w := w) (List.getElem?_eq_some_iff.1 h1).1 (fun x hx => hw x (by simp [hx]))
theorem goN_snoc (d : Da) (s : Nat) (w : List Int) (c : Int) : goN d s (w ++ [c]) = gI d (goN d s w) c := by simp [goN]
theorem learn_split {Γr : Ctx} {t bk k : Nat} {fv : Value} {L : List Int → Bool} (hm : MemOk Γr fv k L) (hk : 1 ≤ k ∧ k ≤ 16) {ends rows : List (List Int)} (hel : ends.length ≤ 800) (hT : TabL L k ends rows) (hC : ClosL L k ends rows) (hb : rows.length ≤ 200) {Γ0 : Ctx} (hW : TabW t bk k fv L ends rows Γ0)
    {W : Option Addr} {cw : Nat} {w : List Int} (hw : SlOk (lk Γr) W cw w) (hwok : okK k w) (hwl : w.length ≤ 2000) (hne : ∀ g, GuessL L k ends rows g → decide (0 ≤ tlN g 0 w) ≠ L w) :
    Ret Try.prog 160 [.pointer (some ⟨t, 0, none⟩), .slice W w.length cw] Γr Γ0 (fun v Γ => ∃ e, TabW t bk k fv L (ends ++ [e]) rows Γ ∧ TabL L k (ends ++ [e]) rows ∧ OpenL L k (ends ++ [e]) rows) := by
  generalize hR : (fun (v : Value) (Γ : Ctx) => ∃ e, _) = R
  refine ret_of_vc tr160 (Nat.le_of_ble_eq_true rfl) ?_
  have hΓ0 : Γ0.length = 6 := by obtain ⟨gk, gt, gr, gl, ge, gf, Ar, Ae, cr, ce, rfl, _⟩ := hW; rfl
  simp -implicitDefEqProofs only [S160, S160_0, go_sem, Nat.reduceBEq, Nat.reduceAdd, Nat.reduceSub, Nat.reduceMul, Nat.reduceLeDiff, reduceCtorEq, ↓reduceIte, Int.reduceLT, Int.reduceLE, Int.reduceEq, Int.reduceNe]
  refine CallVC.perm (Γm := Γ0) (Γf := []) (learn_guess (Γr := Γr) hm hk (by omega) hT hC hb hW) (by simp) (List.Sublist.refl _) ?_
  rintro v Γ' ⟨Γ1, gg, g, A1, c1, B1, e1, rfl, ⟨gk, gt, gr, gl, ge, gf, Ar, Ae, cr, ce, rfl, hgt, hBr, hBe, hK⟩, rfl, hSA, hSB, G⟩
  have hg := hne g G
  clear hW
  obtain ⟨Ae1, ce1, ee, hSe⟩ := hBe.slok (L' := lk [ge, gf]) (lk_sub (by simp)) (lk_sub (by simp)) (by omega)
  simp only [Value.slice.injEq, true_and] at ee
  obtain ⟨rfl, rfl⟩ := ee
  obtain ⟨Ar1, cr1, er, hSr⟩ := hBr.slok (L' := lk [gr, gl]) (lk_sub (by simp)) (lk_sub (by simp)) (by omega)
  simp only [Value.slice.injEq, true_and] at er
  obtain ⟨rfl, rfl⟩ := er
  have hr0 := hT.row0
  have hr0l := (List.getElem?_eq_some_iff.1 hr0).1
  simp -implicitDefEqProofs only [go_sem, Nat.reduceBEq, Nat.reduceAdd, Nat.reduceSub, Nat.reduceMul, Nat.reduceLeDiff, reduceCtorEq, ↓reduceIte, Int.reduceLT, Int.reduceLE, Int.reduceEq, Int.reduceNe]
  intro b4
  refine s_loop (fun f vs Γ => ∃ (i s : Nat) (u : List Int) (gk gx : PH), vs = [.v true (.int .i64 s), .v true (.int .i64 i)] ∧ i + f = w.length ∧ Γ = [gk, gx, gt, gr, gl, ge, gf, gg] ∧ Known gk bk k L ∧ s = goN g 0 (w.take i) ∧ rows[s]? = some u ∧ L (u ++ w.drop i) = L w) w.length
    (Up.sel [[1], [], [2], [3], [4], [5], [6], [0]] (by decide) fun _ _ => ⟨0, 0, [], _, _, rfl, by omega, rfl, hK, rfl, hr0, by simp⟩) ?_
  clear hK
  rintro f vs Γ ⟨i, s, u, gk, gx, rfl, hif, rfl, hK, hs, hu, hL⟩
  have hsl := (List.getElem?_eq_some_iff.1 hu).1
  have hue := (List.getElem?_eq_some_iff.1 hu).2
  simp -implicitDefEqProofs only [S160_1, go_sem, Nat.reduceBEq, Nat.reduceAdd, Nat.reduceSub, Nat.reduceMul, Nat.reduceLeDiff, reduceCtorEq, ↓reduceIte, Int.reduceLT, Int.reduceLE, Int.reduceEq, Int.reduceNe]
  refine ⟨fun hlt => ?_, fun hge => ?_⟩
  · have hi : i < w.length := by omega
    have hx := hwok _ (List.getElem_mem hi)
    obtain ⟨x, hxx⟩ : ∃ x : Nat, w[i] = (x : Int) := ⟨w[i].toNat, by omega⟩
    have hxk : x < k := by omega
    obtain ⟨v, hv, hvm, hst⟩ := G.step hT hu hxk
    obtain ⟨j, hj⟩ : ∃ j, j = gI g s (x : Int) := ⟨_, rfl⟩
    rw [← hj] at hv hst
    have hjl := (List.getElem?_eq_some_iff.1 hv).1
    have hve := (List.getElem?_eq_some_iff.1 hv).2
    have hurok := hT.rok s u hu
    have hvrok := hT.rok j v hv
    have hgl := G.len
    have hrl : (g.nx[s]'(by omega)).length = k := (G.row s u _ hu (List.getElem?_eq_getElem (by omega))).1
    have hat := step_at (d := g) (s := s) (by omega) (x := x) (by omega)
    rw [hst] at hat
    obtain ⟨b1, o1, hW1, hc1⟩ := hw.int hi
    rw [hxx] at hc1
    obtain ⟨b2, o2, hB1, A3, c3, hr3, hc3⟩ := hSB.list (i := s) (by omega)
    obtain ⟨b5, o5, hA3, hc5⟩ := hr3.int (i := x) (by omega)
    rw [← hat] at hc5
    rw [hrl] at hc3
    obtain ⟨b6, o6, hAr, A6, c6, hr6, hc6⟩ := hSr.list (i := j) hjl
    rw [hve] at hr6 hc6
    obtain ⟨b7, o7, hAr7, A7, c7, hr7, hc7⟩ := hSr.list (i := s) hsl
    rw [hue] at hr7 hc7
    have hd0 : w.drop i = (x : Int) :: w.drop (i + 1) := by rw [← hxx]; exact List.drop_eq_getElem_cons hi
    have hdk : okK k (w.drop i) := fun y hy => hwok y (List.mem_of_mem_drop hy)
    have hdk1 : okK k (w.drop (i + 1)) := fun y hy => hwok y (List.mem_of_mem_drop hy)
    have hm8 : ∀ (X : Ctx) (gs : Ctx), (∀ g ∈ X, g ∈ gs) → Mem.le (lk X) (lk (gs ++ Γr)) := fun X gs h => lk_sub fun g hg => by simp [h g hg]
    refine s_idx hW1 (by omega) (by omega) ?_
    simp -implicitDefEqProofs only [go_sem, Nat.reduceBEq, Nat.reduceAdd, Nat.reduceSub, Nat.reduceMul, Nat.reduceLeDiff, reduceCtorEq, ↓reduceIte, Int.reduceLT, Int.reduceLE, Int.reduceEq, Int.reduceNe]
    refine s_ld0 (hc1 _ (lk_r _ _)) (by simp) (by simp) ?_
    simp -implicitDefEqProofs only [go_sem, Nat.reduceBEq, Nat.reduceAdd, Nat.reduceSub, Nat.reduceMul, Nat.reduceLeDiff, reduceCtorEq, ↓reduceIte, Int.reduceLT, Int.reduceLE, Int.reduceEq, Int.reduceNe]
    refine s_drawn [gk, gx] [gt, gr, gl, ge, gf, gg] (Ent.refl _) ?_
    simp -implicitDefEqProofs only [go_sem, Nat.reduceBEq, Nat.reduceAdd, Nat.reduceSub, Nat.reduceMul, Nat.reduceLeDiff, reduceCtorEq, ↓reduceIte, Int.reduceLT, Int.reduceLE, Int.reduceEq, Int.reduceNe]
    have hmr : ∀ gs : Ctx, Mem.le (lk [gr, gl]) (lk (gs ++ (gt :: gr :: gl :: ge :: gf :: gg :: Γr))) := fun gs => lk_sub fun g hg => by simp at hg; rcases hg with rfl | rfl <;> simp
    have hmg : ∀ gs : Ctx, Mem.le (lk [gg]) (lk (gs ++ (gt :: gr :: gl :: ge :: gf :: gg :: Γr))) := fun gs => lk_sub fun g hg => by simp at hg; subst hg; simp
    have hmw : ∀ gs : Ctx, Mem.le (lk Γr) (lk (gs ++ (gt :: gr :: gl :: ge :: gf :: gg :: Γr))) := fun gs => lk_sub fun g hg => by simp [hg]
    refine s_ld (j := 3) (cells_lk ⟨gt, by simp, hgt⟩) (by simp) (by simp) ?_
    simp -implicitDefEqProofs only [go_sem, Nat.reduceBEq, Nat.reduceAdd, Nat.reduceSub, Nat.reduceMul, Nat.reduceLeDiff, reduceCtorEq, ↓reduceIte, Int.reduceLT, Int.reduceLE, Int.reduceEq, Int.reduceNe]
    refine s_idx hB1 (by omega) (by omega) ?_
    simp -implicitDefEqProofs only [go_sem, Nat.reduceBEq, Nat.reduceAdd, Nat.reduceSub, Nat.reduceMul, Nat.reduceLeDiff, reduceCtorEq, ↓reduceIte, Int.reduceLT, Int.reduceLE, Int.reduceEq, Int.reduceNe]
    refine s_ld0 (hc3 _ (hmg [gk, gx])) (by simp) (by simp) ?_
    simp -implicitDefEqProofs only [go_sem, Nat.reduceBEq, Nat.reduceAdd, Nat.reduceSub, Nat.reduceMul, Nat.reduceLeDiff, reduceCtorEq, ↓reduceIte, Int.reduceLT, Int.reduceLE, Int.reduceEq, Int.reduceNe]
    refine s_idx hA3 (by omega) (by omega) ?_
    simp -implicitDefEqProofs only [go_sem, Nat.reduceBEq, Nat.reduceAdd, Nat.reduceSub, Nat.reduceMul, Nat.reduceLeDiff, reduceCtorEq, ↓reduceIte, Int.reduceLT, Int.reduceLE, Int.reduceEq, Int.reduceNe]
    refine s_ld0 (hc5 _ (hmg [gk, gx])) (by simp) (by simp) ?_
    simp -implicitDefEqProofs only [go_sem, Nat.reduceBEq, Nat.reduceAdd, Nat.reduceSub, Nat.reduceMul, Nat.reduceLeDiff, reduceCtorEq, ↓reduceIte, Int.reduceLT, Int.reduceLE, Int.reduceEq, Int.reduceNe]
    refine s_idx hAr (by omega) (by omega) ?_
    simp -implicitDefEqProofs only [go_sem, Nat.reduceBEq, Nat.reduceAdd, Nat.reduceSub, Nat.reduceMul, Nat.reduceLeDiff, reduceCtorEq, ↓reduceIte, Int.reduceLT, Int.reduceLE, Int.reduceEq, Int.reduceNe]
    refine s_ld0 (hc6 _ (hmr [gk, gx])) (by simp) (by simp) ?_
    simp -implicitDefEqProofs only [go_sem, Nat.reduceBEq, Nat.reduceAdd, Nat.reduceSub, Nat.reduceMul, Nat.reduceLeDiff, reduceCtorEq, ↓reduceIte, Int.reduceLT, Int.reduceLE, Int.reduceEq, Int.reduceNe]
    have hw1 : IntKind.i64.wrap ((i : Int) + 1) = ((i + 1 : Nat) : Int) := by rw [wrap_id (by omega) (by omega)]; omega
    rw [hw1]
    refine s_lo (i + 1) (by simp -implicitDefEqProofs only [go_sem, Nat.reduceBEq, Nat.reduceAdd, Nat.reduceSub, Nat.reduceMul, Nat.reduceLeDiff, reduceCtorEq, ↓reduceIte, Int.reduceLT, Int.reduceLE, Int.reduceEq, Int.reduceNe]; exact ⟨_, rfl⟩) (by omega) (hw.cap) ?_
    intro A8 hA8
    have hS8 := hw.drop (l := i + 1) (by omega)
    rw [show (if cw = i + 1 then W else W.map (·.add ((i + 1) * Rep.sz Int))) = A8 from hA8.symm] at hS8
    simp -implicitDefEqProofs only [go_sem, Nat.reduceBEq, Nat.reduceAdd, Nat.reduceSub, Nat.reduceMul, Nat.reduceLeDiff, reduceCtorEq, ↓reduceIte, Int.reduceLT, Int.reduceLE, Int.reduceEq, Int.reduceNe]
    refine s_ld (j := 3) (cells_lk ⟨gt, by simp, hgt⟩) (by simp) (by simp) ?_
    simp -implicitDefEqProofs only [go_sem, Nat.reduceBEq, Nat.reduceAdd, Nat.reduceSub, Nat.reduceMul, Nat.reduceLeDiff, reduceCtorEq, ↓reduceIte, Int.reduceLT, Int.reduceLE, Int.reduceEq, Int.reduceNe]
    refine s_idx hAr7 (by omega) (by omega) ?_
    simp -implicitDefEqProofs only [go_sem, Nat.reduceBEq, Nat.reduceAdd, Nat.reduceSub, Nat.reduceMul, Nat.reduceLeDiff, reduceCtorEq, ↓reduceIte, Int.reduceLT, Int.reduceLE, Int.reduceEq, Int.reduceNe]
    refine s_ld0 (by simpa using hc7 _ (hmr [])) (by simp) (by simp) ?_
    simp -implicitDefEqProofs only [go_sem, Nat.reduceBEq, Nat.reduceAdd, Nat.reduceSub, Nat.reduceMul, Nat.reduceLeDiff, reduceCtorEq, ↓reduceIte, Int.reduceLT, Int.reduceLE, Int.reduceEq, Int.reduceNe]
    refine s_lo i (by simp -implicitDefEqProofs only [go_sem, Nat.reduceBEq, Nat.reduceAdd, Nat.reduceSub, Nat.reduceMul, Nat.reduceLeDiff, reduceCtorEq, ↓reduceIte, Int.reduceLT, Int.reduceLE, Int.reduceEq, Int.reduceNe]; exact ⟨_, rfl⟩) (by omega) (hw.cap) ?_
    intro A9 hA9
    have hS9 := hw.drop (l := i) (by omega)
    rw [show (if cw = i then W else W.map (·.add (i * Rep.sz Int))) = A9 from hA9.symm] at hS9
    simp -implicitDefEqProofs only [go_sem, Nat.reduceBEq, Nat.reduceAdd, Nat.reduceSub, Nat.reduceMul, Nat.reduceLeDiff, reduceCtorEq, ↓reduceIte, Int.reduceLT, Int.reduceLE, Int.reduceEq, Int.reduceNe]
    refine s_appS (α := Int) (ix := 1) (xs := []) (L := lk []) rfl (Bld.nil gx _ _) (hr6.mono (hmr [gk, gx])) rfl (Mem.le.refl _) rfl (by simp; omega) (by simp; unfold maxLen; omega) ?_
    intro v1 g1 hB11 _
    rw [List.nil_append] at hB11
    obtain ⟨A11, c11, rfl⟩ := hB11.val
    simp -implicitDefEqProofs only [go_sem, Nat.reduceBEq, Nat.reduceAdd, Nat.reduceSub, Nat.reduceMul, Nat.reduceLeDiff, reduceCtorEq, ↓reduceIte, Int.reduceLT, Int.reduceLE, Int.reduceEq, Int.reduceNe]
    refine s_appS (α := Int) (ix := 1) (ys := w.drop (i + 1)) (L := lk []) rfl hB11 (hS8.mono (hmw [gk, g1])) (by simp) (Mem.le.refl _) rfl (by simp; omega) (by simp; unfold maxLen; omega) ?_
    intro v2 g2 hB12 _
    have hl12 : (v ++ w.drop (i + 1)).length ≤ 4000 := by simp; omega
    obtain ⟨A12, c12, rfl, hS12⟩ := hB12.slok (L' := lk [g2]) (Mem.le.refl _) (fun b o ⟨x, hx, _⟩ => by cases hx) (by omega)
    simp -implicitDefEqProofs only [go_sem, Nat.reduceBEq, Nat.reduceAdd, Nat.reduceSub, Nat.reduceMul, Nat.reduceLeDiff, reduceCtorEq, ↓reduceIte, Int.reduceLT, Int.reduceLE, Int.reduceEq, Int.reduceNe]
    refine CallVC.head (learn_ask (Γr := [g2] ++ (gt :: gr :: gl :: ge :: gf :: gg :: Γr)) ⟨gt, by simp, hgt⟩ (hm.mono (hmw [g2])) hK hk.2 (hS12.mono (lk_sub fun g hg => by simp at hg; subst hg; simp)) (okK_app.2 ⟨hvrok.1, hdk1⟩) (by omega)) (List.Sublist.refl _) ?_
    rintro vv Γ' ⟨gk1, rfl, hK1, rfl⟩
    simp -implicitDefEqProofs only [go_sem, Nat.reduceBEq, Nat.reduceAdd, Nat.reduceSub, Nat.reduceMul, Nat.reduceLeDiff, reduceCtorEq, ↓reduceIte, Int.reduceLT, Int.reduceLE, Int.reduceEq, Int.reduceNe]
    refine s_appS (α := Int) (ix := 1) (xs := []) (L := lk []) rfl (Bld.nil g2 _ _) (hr7.mono (hmr [gk1, g2])) rfl (Mem.le.refl _) rfl (by simp; omega) (by simp; unfold maxLen; omega) ?_
    intro v3 g3 hB13 _
    rw [List.nil_append] at hB13
    obtain ⟨A13, c13, rfl⟩ := hB13.val
    simp -implicitDefEqProofs only [go_sem, Nat.reduceBEq, Nat.reduceAdd, Nat.reduceSub, Nat.reduceMul, Nat.reduceLeDiff, reduceCtorEq, ↓reduceIte, Int.reduceLT, Int.reduceLE, Int.reduceEq, Int.reduceNe]
    refine s_appS (α := Int) (ix := 1) (ys := w.drop i) (L := lk []) rfl hB13 (hS9.mono (hmw [gk1, g3])) (by simp) (Mem.le.refl _) rfl (by simp; omega) (by simp; unfold maxLen; omega) ?_
    intro v4 g4 hB14 _
    have hl14 : (u ++ w.drop i).length ≤ 4000 := by simp; omega
    obtain ⟨A14, c14, rfl, hS14⟩ := hB14.slok (L' := lk [g4]) (Mem.le.refl _) (fun b o ⟨x, hx, _⟩ => by cases hx) (by omega)
    simp -implicitDefEqProofs only [go_sem, Nat.reduceBEq, Nat.reduceAdd, Nat.reduceSub, Nat.reduceMul, Nat.reduceLeDiff, reduceCtorEq, ↓reduceIte, Int.reduceLT, Int.reduceLE, Int.reduceEq, Int.reduceNe]
    refine CallVC.head (learn_ask (Γr := [g4] ++ (gt :: gr :: gl :: ge :: gf :: gg :: Γr)) ⟨gt, by simp, hgt⟩ (hm.mono (hmw [g4])) hK1 hk.2 (hS14.mono (lk_sub fun g hg => by simp at hg; subst hg; simp)) (okK_app.2 ⟨hurok.1, hdk⟩) (by omega)) (List.Sublist.refl _) ?_
    rintro vv Γ' ⟨gk2, rfl, hK2, rfl⟩
    simp -implicitDefEqProofs only [go_sem, Nat.reduceBEq, Nat.reduceAdd, Nat.reduceSub, Nat.reduceMul, Nat.reduceLeDiff, reduceCtorEq, ↓reduceIte, Int.reduceLT, Int.reduceLE, Int.reduceEq, Int.reduceNe]
    rw [hL]
    by_cases hq : L (v ++ w.drop (i + 1)) = L w
    · rw [hq]
      simp only [beq_self_eq_true, Bool.not_true, bne_self_eq_false, Bool.true_bne, Bool.bne_true]
      refine ⟨fun h => (by cases h), ?_⟩
      try intro _
      refine s_idx hB1 (by omega) (by omega) ?_
      simp -implicitDefEqProofs only [go_sem, Nat.reduceBEq, Nat.reduceAdd, Nat.reduceSub, Nat.reduceMul, Nat.reduceLeDiff, reduceCtorEq, ↓reduceIte, Int.reduceLT, Int.reduceLE, Int.reduceEq, Int.reduceNe]
      refine s_ld0 (hc3 _ (lk_sub fun g hg => by simp at hg; subst hg; simp)) (by simp) (by simp) ?_
      simp -implicitDefEqProofs only [go_sem, Nat.reduceBEq, Nat.reduceAdd, Nat.reduceSub, Nat.reduceMul, Nat.reduceLeDiff, reduceCtorEq, ↓reduceIte, Int.reduceLT, Int.reduceLE, Int.reduceEq, Int.reduceNe]
      refine s_idx hA3 (by omega) (by omega) ?_
      simp -implicitDefEqProofs only [go_sem, Nat.reduceBEq, Nat.reduceAdd, Nat.reduceSub, Nat.reduceMul, Nat.reduceLeDiff, reduceCtorEq, ↓reduceIte, Int.reduceLT, Int.reduceLE, Int.reduceEq, Int.reduceNe]
      refine s_ld0 (hc5 _ (lk_sub fun g hg => by simp at hg; subst hg; simp)) (by simp) (by simp) ?_
      simp -implicitDefEqProofs only [go_sem, Nat.reduceBEq, Nat.reduceAdd, Nat.reduceSub, Nat.reduceMul, Nat.reduceLeDiff, reduceCtorEq, ↓reduceIte, Int.reduceLT, Int.reduceLE, Int.reduceEq, Int.reduceNe]
      simp (disch := omega) only [wrap_id]
      have hs' : j = goN g 0 (w.take (i + 1)) := by rw [List.take_succ_eq_append_getElem hi, goN_snoc, ← hs, hxx]; exact hj
      exact ⟨f - 1, by omega, Up.here ⟨i + 1, j, v, gk2, g4, rfl, by omega, rfl, hK2, hs', hv, hq⟩⟩
    · have hq2 : (L (v ++ w.drop (i + 1)) == L w) = false := by simpa using hq
      simp only [hq2]
      refine ⟨fun _ => ?_, fun h => absurd h hq⟩
      refine ⟨[gk2, g4, gt, gr, gl, ge, gf, gg], [], fun ψ Γ' => ψ = [] ∧ ∃ (gt' ge' gx' : PH) (Ae' : Option Addr) (ce' : Nat), Γ' = [gk2, gx', gt', gr, gl, ge', gf, gg] ∧ gt' t = some (.cells [.int .i64 (k : Int), fv, .map (some bk), .slice Ar rows.length cr, .slice Ae' (ends ++ [w.drop (i + 1)]).length ce'].toArray 198 (0, 0)) ∧
        Bld ge' (lk [gf, gx']) 29 (.slice Ae' (ends ++ [w.drop (i + 1)]).length ce') (ends ++ [w.drop (i + 1)]), Ent.refl _, ?_, ?_⟩
      · simp -implicitDefEqProofs only [go_sem, Nat.reduceBEq, Nat.reduceAdd, Nat.reduceSub, Nat.reduceMul, Nat.reduceLeDiff, reduceCtorEq, ↓reduceIte, Int.reduceLT, Int.reduceLE, Int.reduceEq, Int.reduceNe]
        rw [hw1]
        refine s_lo (i + 1) (by simp -implicitDefEqProofs only [go_sem, Nat.reduceBEq, Nat.reduceAdd, Nat.reduceSub, Nat.reduceMul, Nat.reduceLeDiff, reduceCtorEq, ↓reduceIte, Int.reduceLT, Int.reduceLE, Int.reduceEq, Int.reduceNe]; exact ⟨_, rfl⟩) (by omega) (hw.cap) ?_
        intro A18 hA18
        have hA18' : A18 = A8 := by rw [hA18, hA8]
        subst hA18'
        simp -implicitDefEqProofs only [go_sem, Nat.reduceBEq, Nat.reduceAdd, Nat.reduceSub, Nat.reduceMul, Nat.reduceLeDiff, reduceCtorEq, ↓reduceIte, Int.reduceLT, Int.reduceLE, Int.reduceEq, Int.reduceNe]
        have hdl : (w.drop (i + 1)).length = w.length - (i + 1) := by simp
        repeat' first
          | with_reducible exact True.intro
          | with_reducible refine And.intro ?_ ?_
          | with_reducible intro bk
          | (refine s_ld (j := 4) (cells_lk ⟨gt, by simp, hgt⟩) (by simp) (by simp) ?_)
          | (refine s_appS (α := Int) (ix := 1) (xs := []) (ys := w.drop (i + 1)) (L := lk []) rfl (Bld.nil g4 _ _) (hS8.mono (lk_sub fun g hg => by simp [hg])) (by simp) (Mem.le.refl _) rfl (by simp; omega) (by simp; unfold maxLen; omega) ?_; intro vi gi hBi hKi; rw [List.nil_append] at hBi; obtain ⟨Ai, ci, rfl, hSi⟩ := hBi.slok (L' := lk [gi]) (Mem.le.refl _) (fun b o ⟨x, hx, _⟩ => by cases hx) (by simp; omega))
          | (refine s_app1 (ix := 6) (x := w.drop (i + 1)) (L' := lk [gf, gi]) rfl hBe (lk_sub (by simp)) (mk_list (hSi.mono (lk_sub (by simp)))) cells_one rfl (by omega) (by unfold maxLen; omega) ?_; intro vo ge' hBo _; obtain ⟨Ao, co, rfl⟩ := hBo.val)
          | (refine s_storeF (ix := 3) (o := 4) (n := 1) rfl hgt (by simp) ?_)
          | simp -implicitDefEqProofs only [go_sem, Nat.reduceBEq, Nat.reduceAdd, Nat.reduceSub, Nat.reduceMul, Nat.reduceLeDiff, reduceCtorEq, ↓reduceIte, Int.reduceLT, Int.reduceLE, Int.reduceEq, Int.reduceNe]
        all_goals exact Up.skip (Up.here ⟨_, _, _, _, _, rfl, upd_self _ _ _, hBo⟩)
      · rintro ψ Γ' ⟨rfl, gt', ge', gx', Ae', ce', rfl, hgt', hBe'⟩
        simp -implicitDefEqProofs only [go_sem, Nat.reduceBEq, Nat.reduceAdd, Nat.reduceSub, Nat.reduceMul, Nat.reduceLeDiff, reduceCtorEq, ↓reduceIte, Int.reduceLT, Int.reduceLE, Int.reduceEq, Int.reduceNe]
        refine Up.sel [[0], [2], [3], [4], [5], [6, 1]] (by decide) fun _ hm2 => ?_
        subst hR
        have hek : okK k (w.drop (i + 1)) := hdk1
        have hT' := hT.split hek (by simp; omega)
        refine ⟨w.drop (i + 1), ⟨_, _, _, _, _, _, Ar, Ae', cr, ce', rfl, hgt', hBr, hBe'.mono (Mem.le.refl _) (hm2 [6, 1] (by simp)), hK2⟩, hT', hT.opens hu hxk hv hvm ?_⟩
        intro e
        apply hq
        rw [e, ← hd0]
        exact hL
  · have hi : i = w.length := by omega
    rw [hi, List.take_length] at hs
    rw [hi, List.drop_length, List.append_nil] at hL
    exfalso
    refine hg (G.agree hT hwok fun v hv => ?_)
    rw [← hs, hu] at hv
    cases hv
    exact hL
end Go.Proofs.Ytniobbepliknmaa.V
/- The text of parlance/learn.Of as a statement (slots: 0 symbols, 1 member, 2 equal, 3 symbols, 4 member, 5 equal, 8 t, 9 d, 10 e, 11 ok, 12 w, 13 _, 14 x); no condition. -/
namespace Go.Proofs.Ytniobbepliknmaa.V
open Go
def S85_1 : Stmt :=
  Stmt.seq
  (Stmt.region [SOper.mk (some 61) none (SOp.ibin BinOp.lss (Operand.tmp 60) (Operand.tmp 59))]
    [0, 2, 6, 8, 9, 12, 58, 59, 60, 61])
  (Stmt.seq (Stmt.cond (Operand.tmp 61) Stmt.skip (Stmt.exit 2))
    (Stmt.seq
      (Stmt.block 3
        (Stmt.seq
          (Stmt.region
            [SOper.mk (some 62) none (SOp.idx 1 (Operand.tmp 58) (Operand.tmp 60)),
              SOper.mk (some 63) none (SOp.load false 1 (Operand.tmp 62)),
              SOper.mk (some 14) none (SOp.mv (Operand.tmp 63))]
            [0, 2, 6, 8, 9, 12, 14, 58, 59, 60])
          (Stmt.seq
            (Stmt.region
              [SOper.mk (some 64) none (SOp.mv (Operand.tmp 14)),
                SOper.mk (some 65) none (SOp.ibin BinOp.lss (Operand.tmp 64) (Operand.const (Value.int IntKind.i64 0))),
                SOper.mk (some 66) none (SOp.mv (Operand.tmp 65)),
                SOper.mk (some 67) (some (66, false)) (SOp.mv (Operand.tmp 14)),
                SOper.mk (some 68) (some (66, false)) (SOp.mv (Operand.tmp 0)),
                SOper.mk (some 69) (some (66, false)) (SOp.ibin BinOp.geq (Operand.tmp 67) (Operand.tmp 68)),
                SOper.mk (some 70) none (SOp.pick (Operand.tmp 66) (Operand.const (Value.bool true)) (Operand.tmp 69))]
              [0, 2, 6, 8, 9, 12, 58, 59, 60, 70])
            (Stmt.cond (Operand.tmp 70)
              (Stmt.seq
                (Stmt.region
                  [SOper.mk (some 71) none
                      (SOp.build 67 [Value.int IntKind.i64 0, Value.slice none 0 0, Value.slice none 0 0] []),
                    SOper.mk none none (SOp.store 3 (Operand.tmp 6) (Operand.tmp 71)),
                    SOper.mk (some 7) none (SOp.mv (Operand.const (Value.int IntKind.i64 1)))]
                  [6, 7])
                Stmt.ret)
              Stmt.skip))))
      (Stmt.region
        [SOper.mk (some 72) none (SOp.ibin BinOp.add (Operand.tmp 60) (Operand.const (Value.int IntKind.i64 1))),
          SOper.mk (some 60) none (SOp.mv (Operand.tmp 72))]
        [0, 2, 6, 8, 9, 12, 58, 59, 60])))
def S85_2 : Stmt :=
  Stmt.block 1
  (Stmt.seq
    (Stmt.seq
      (Stmt.region
        [SOper.mk (some 29) none (SOp.mv (Operand.tmp 8)),
          SOper.mk (some 30) none (SOp.call (Operand.func 155) [Operand.tmp 29]),
          SOper.mk (some 31) none (SOp.un UnOp.not (Operand.tmp 30))]
        [0, 2, 6, 8, 31])
      (Stmt.cond (Operand.tmp 31)
        (Stmt.seq
          (Stmt.region
            [SOper.mk (some 32) none
                (SOp.build 67 [Value.int IntKind.i64 0, Value.slice none 0 0, Value.slice none 0 0] []),
              SOper.mk none none (SOp.store 3 (Operand.tmp 6) (Operand.tmp 32)),
              SOper.mk (some 7) none (SOp.mv (Operand.const (Value.int IntKind.i64 2)))]
            [6, 7])
          Stmt.ret)
        Stmt.skip))
    (Stmt.seq
      (Stmt.region
        [SOper.mk (some 34) none (SOp.mv (Operand.tmp 8)),
          SOper.mk (some 35) none (SOp.call (Operand.func 156) [Operand.tmp 34]),
          SOper.mk (some 36) none (SOp.call (Operand.func 97) [Operand.tmp 35]),
          SOper.mk (some 33) none (SOp.mv (Operand.tmp 36)), SOper.mk (some 37) none (SOp.extract 0 (Operand.tmp 33)),
          SOper.mk (some 38) none (SOp.extract 1 (Operand.tmp 33)),
          SOper.mk (some 9) none
            (SOp.alloc true 67
              (Value.agg (Array.mk [Value.int IntKind.i64 0, Value.slice none 0 0, Value.slice none 0 0]))),
          SOper.mk none none (SOp.store 3 (Operand.tmp 9) (Operand.tmp 37)),
          SOper.mk (some 10) none (SOp.mv (Operand.tmp 38))]
        [0, 2, 6, 8, 9, 10])
      (Stmt.seq
        (Stmt.seq
          (Stmt.region
            [SOper.mk (some 39) none (SOp.mv (Operand.tmp 10)),
              SOper.mk (some 40) none (SOp.ibin BinOp.neq (Operand.tmp 39) (Operand.const (Value.int IntKind.i64 0)))]
            [0, 2, 6, 8, 9, 10, 40])
          (Stmt.cond (Operand.tmp 40)
            (Stmt.seq
              (Stmt.region
                [SOper.mk (some 41) none
                    (SOp.build 67 [Value.int IntKind.i64 0, Value.slice none 0 0, Value.slice none 0 0] []),
                  SOper.mk (some 42) none (SOp.mv (Operand.tmp 10)),
                  SOper.mk none none (SOp.store 3 (Operand.tmp 6) (Operand.tmp 41)),
                  SOper.mk (some 7) none (SOp.mv (Operand.tmp 42))]
                [6, 7])
              Stmt.ret)
            Stmt.skip))
        (Stmt.seq
          (Stmt.region
            [SOper.mk (some 44) none (SOp.mv (Operand.tmp 2)),
              SOper.mk (some 45) none (SOp.load true 3 (Operand.tmp 9)),
              SOper.mk (some 46) none (SOp.call (Operand.func 157) [Operand.tmp 45]),
              SOper.mk (some 47) none (SOp.call (Operand.tmp 44) [Operand.tmp 46]),
              SOper.mk (some 43) none (SOp.mv (Operand.tmp 47)),
              SOper.mk (some 48) none (SOp.extract 0 (Operand.tmp 43)),
              SOper.mk (some 49) none (SOp.extract 1 (Operand.tmp 43)),
              SOper.mk (some 11) none (SOp.mv (Operand.tmp 48)), SOper.mk (some 12) none (SOp.mv (Operand.tmp 49))]
            [0, 2, 6, 8, 9, 11, 12])
          (Stmt.seq
            (Stmt.seq (Stmt.region [SOper.mk (some 50) none (SOp.mv (Operand.tmp 11))] [0, 2, 6, 8, 9, 12, 50])
              (Stmt.cond (Operand.tmp 50)
                (Stmt.seq
                  (Stmt.region
                    [SOper.mk (some 51) none (SOp.load true 3 (Operand.tmp 9)),
                      SOper.mk none none (SOp.store 3 (Operand.tmp 6) (Operand.tmp 51)),
                      SOper.mk (some 7) none (SOp.mv (Operand.const (Value.int IntKind.i64 0)))]
                    [6, 7])
                  Stmt.ret)
                Stmt.skip))
            (Stmt.seq
              (Stmt.region
                [SOper.mk (some 52) none (SOp.mv (Operand.tmp 12)),
                  SOper.mk (some 53) none
                    (SOp.append 29 3 1 8 (Value.int IntKind.i64 0) (Operand.const (Value.slice none 0 0))
                      (Operand.tmp 52)),
                  SOper.mk (some 12) none (SOp.mv (Operand.tmp 53))]
                [0, 2, 6, 8, 9, 12])
              (Stmt.seq
                (Stmt.seq
                  (Stmt.region
                    [SOper.mk (some 54) none (SOp.mv (Operand.tmp 12)),
                      SOper.mk (some 55) none (SOp.len false (Operand.tmp 54)),
                      SOper.mk (some 56) none
                        (SOp.ibin BinOp.gtr (Operand.tmp 55) (Operand.const (Value.int IntKind.i64 2000)))]
                    [0, 2, 6, 8, 9, 12, 56])
                  (Stmt.cond (Operand.tmp 56)
                    (Stmt.seq
                      (Stmt.region
                        [SOper.mk (some 57) none
                            (SOp.build 67 [Value.int IntKind.i64 0, Value.slice none 0 0, Value.slice none 0 0] []),
                          SOper.mk none none (SOp.store 3 (Operand.tmp 6) (Operand.tmp 57)),
                          SOper.mk (some 7) none (SOp.mv (Operand.const (Value.int IntKind.i64 2)))]
                        [6, 7])
                      Stmt.ret)
                    Stmt.skip))
                (Stmt.seq
                  (Stmt.seq
                    (Stmt.region
                      [SOper.mk (some 58) none (SOp.mv (Operand.tmp 12)),
                        SOper.mk (some 59) none (SOp.len false (Operand.tmp 58)),
                        SOper.mk (some 60) none (SOp.mv (Operand.const (Value.int IntKind.i64 0)))]
                      [0, 2, 6, 8, 9, 12, 58, 59, 60])
                    (Stmt.block 2 (Stmt.loop S85_1 [6, 60] [0, 2, 8, 9, 12, 58, 59])))
                  (Stmt.seq
                    (Stmt.seq
                      (Stmt.region
                        [SOper.mk (some 73) none (SOp.load true 3 (Operand.tmp 9)),
                          SOper.mk (some 74) none (SOp.mv (Operand.tmp 12)),
                          SOper.mk (some 75) none (SOp.call (Operand.func 158) [Operand.tmp 73, Operand.tmp 74]),
                          SOper.mk (some 76) none (SOp.mv (Operand.tmp 8)),
                          SOper.mk (some 77) none (SOp.mv (Operand.tmp 12)),
                          SOper.mk (some 78) none (SOp.call (Operand.func 159) [Operand.tmp 76, Operand.tmp 77]),
                          SOper.mk (some 79) none (SOp.beq false (Operand.tmp 75) (Operand.tmp 78))]
                        [0, 2, 6, 8, 12, 79])
                      (Stmt.cond (Operand.tmp 79)
                        (Stmt.seq
                          (Stmt.region
                            [SOper.mk (some 80) none
                                (SOp.build 67 [Value.int IntKind.i64 0, Value.slice none 0 0, Value.slice none 0 0] []),
                              SOper.mk none none (SOp.store 3 (Operand.tmp 6) (Operand.tmp 80)),
                              SOper.mk (some 7) none (SOp.mv (Operand.const (Value.int IntKind.i64 7)))]
                            [6, 7])
                          Stmt.ret)
                        Stmt.skip))
                    (Stmt.region
                      [SOper.mk (some 81) none (SOp.mv (Operand.tmp 8)),
                        SOper.mk (some 82) none (SOp.mv (Operand.tmp 12)),
                        SOper.mk (some 83) none (SOp.call (Operand.func 160) [Operand.tmp 81, Operand.tmp 82])]
                      [0, 2, 6, 8]))))))))))
def S85_0 : Stmt :=
  Stmt.seq
  (Stmt.region
    [SOper.mk (some 6) none
        (SOp.alloc true 67
          (Value.agg (Array.mk [Value.int IntKind.i64 0, Value.slice none 0 0, Value.slice none 0 0]))),
      SOper.mk (some 7) none (SOp.mv (Operand.const (Value.int IntKind.i64 0)))]
    [0, 1, 2, 6])
  (Stmt.seq
    (Stmt.seq
      (Stmt.region
        [SOper.mk (some 15) none (SOp.mv (Operand.tmp 0)),
          SOper.mk (some 16) none (SOp.ibin BinOp.lss (Operand.tmp 15) (Operand.const (Value.int IntKind.i64 1))),
          SOper.mk (some 17) none (SOp.mv (Operand.tmp 16)),
          SOper.mk (some 18) (some (17, false)) (SOp.mv (Operand.tmp 0)),
          SOper.mk (some 19) (some (17, false))
            (SOp.ibin BinOp.gtr (Operand.tmp 18) (Operand.const (Value.int IntKind.i64 16))),
          SOper.mk (some 20) none (SOp.pick (Operand.tmp 17) (Operand.const (Value.bool true)) (Operand.tmp 19))]
        [0, 1, 2, 6, 20])
      (Stmt.cond (Operand.tmp 20)
        (Stmt.seq
          (Stmt.region
            [SOper.mk (some 21) none
                (SOp.build 67 [Value.int IntKind.i64 0, Value.slice none 0 0, Value.slice none 0 0] []),
              SOper.mk none none (SOp.store 3 (Operand.tmp 6) (Operand.tmp 21)),
              SOper.mk (some 7) none (SOp.mv (Operand.const (Value.int IntKind.i64 1)))]
            [6, 7])
          Stmt.ret)
        Stmt.skip))
    (Stmt.seq
      (Stmt.region
        [SOper.mk (some 22) none (SOp.mv (Operand.tmp 0)), SOper.mk (some 23) none (SOp.mv (Operand.tmp 1)),
          SOper.mk (some 24) none (SOp.n (Qk.mkmap 118) []),
          SOper.mk (some 25) none
            (SOp.buildS 29 1 [Value.slice none 0 0] [(0, 1, Operand.const (Value.slice none 0 0))]),
          SOper.mk (some 26) none
            (SOp.buildS 29 1 [Value.slice none 0 0] [(0, 1, Operand.const (Value.slice none 0 0))]),
          SOper.mk (some 27) none
            (SOp.build 198
              [Value.int IntKind.i64 0, Value.nilFunc, Value.map none, Value.slice none 0 0, Value.slice none 0 0]
              [(0, 1, Operand.tmp 22), (1, 1, Operand.tmp 23), (2, 1, Operand.tmp 24), (3, 1, Operand.tmp 25),
                (4, 1, Operand.tmp 26)]),
          SOper.mk (some 28) none (SOp.box false 198 (Operand.tmp 27)),
          SOper.mk (some 8) none (SOp.mv (Operand.tmp 28))]
        [0, 2, 6, 8])
      (Stmt.block 0 (Stmt.loop S85_2 [6] [0, 2, 8]))))
def S85 : FnS := ⟨84, [(6, some (true, 3)), (7, none)], S85_0⟩
theorem tr85 : trFn Try.prog 85 [6, 9] [[0, 1, 2, 6], [0, 1, 2, 6, 20], [6, 7], [0, 2, 6, 8], [6], [0, 2, 8], [0, 2, 6, 8, 31], [6, 7], [0, 2, 6, 8, 9, 10], [0, 2, 6, 8, 9, 10, 40], [6, 7], [0, 2, 6, 8, 9, 11, 12], [0, 2, 6, 8, 9, 12, 50], [6, 7], [0, 2, 6, 8, 9, 12], [0, 2, 6, 8, 9, 12, 56], [6, 7], [0, 2, 6, 8, 9, 12, 58, 59, 60], [6, 60], [0, 2, 8, 9, 12, 58, 59], [0, 2, 6, 8, 9, 12, 58, 59, 60, 61], [0, 2, 6, 8, 9, 12, 14, 58, 59, 60], [0, 2, 6, 8, 9, 12, 58, 59, 60, 70], [6, 7], [0, 2, 6, 8, 9, 12, 58, 59, 60], [0, 2, 6, 8, 12, 79], [6, 7], [0, 2, 6, 8]] = some S85 := by kernel_rfl
end Go.Proofs.Ytniobbepliknmaa.V
/- learn.Of walked; no condition. -/
namespace Go.Proofs.Ytniobbepliknmaa.V
open Go
set_option linter.unusedVariables false
set_option linter.unusedSimpArgs false
attribute [local go_sem] e_seq e_region e_quiet e_join e_loop e_cond e_block e_exit e_ret e_skip e_fin e_kseq e_snrm e_sret e_sex e_bnrm e_bret e_bex e_rnrm e_rret e_res e_condC e_nil e_g e_mv g_mv e_pick g_pick pickC_eq e_ibin g_ibin ibinC_eq e_sbin g_sbin e_beq g_beq beqC_eq e_nilq g_nilq nilqC_sl nilqC_pt nilqC_mp e_un g_un unC_not unC_neg e_conv g_conv convC_eq e_fld g_fld fldC_ref fldC_ptr e_nilCheck g_nilCheck nilCheckC_ref nilCheckC_ptr nilCheckC_fun e_field g_field fieldC_eq e_len g_len lenC_sl lenC_str e_extract g_extract extractC_eq e_mkFunc e_build g_build e_idiv g_idiv idivC_eq e_ishift g_ishift ishiftC_eq e_idx g_idx e_idxA g_idxA e_load g_load e_loadB g_loadB atB_ref atB_v g_mkFunc loadC_ref loadC_ptr loadB_eq e_slc g_slc e_box boxC_loc boxC_esc e_alloc allocC_loc allocC_esc e_buildS e_store storeC_ref storeC_ptr storeB_eq e_append e_appz e_mk mkC_eq e_call callC_eq e_fn g_fn fnC_eq fnV_min' fnV_max' fnV_rune' e_q g_q e_a e_n g_call g_box g_alloc g_buildS g_store g_append g_mk g_a g_n g_dead e_dead e_callK e_drawn e_tree e_finJ e_tk e_tfin e_tno e_nbt_q e_nbt_qn e_nbt_a e_nbt_an e_nbt_fin e_drawnB e_bxb_nil e_bxb e_stB_none e_stB_some boxSt_store bs_mv bs_pick bs_ibin bs_idiv bs_ishift bs_sbin bs_beq bs_nilq bs_un bs_conv bs_box bs_alloc bs_build bs_buildS bs_load bs_fld bs_nilCheck bs_idx bs_idxA bs_field bs_slc bs_len bs_append bs_appz bs_mk bs_call bs_extract bs_mkFunc bs_fn bs_q bs_a bs_n bs_loadB bs_dead isBox_box e_early_nil e_early_t e_early_f e_nob_nil e_nob_none e_nob_some isBox_dead isBox_v isBox_ref e_dnil e_dk e_ek e_finB vcOps_vc1 e_dcons e_tq e_ekt e_tearly e_talt e_dearly look_nil look_c proj_nil proj_c looks_nil looks_c zip_nil zip_c val_tmp val_const val_func slv_v slv_box slv_ref slot_tmp slot_const slot_func slotL_v slotL_box slotL_ref put_some put_none updBox_c boxSet_box gd_eq slotVals_nil slotVals_c slotVals_b boxV_box boxOn_box slotsOn_nil slotsOn_c slotsOn_b resV_one resV_two vals_nil vals_c allOn_nil allOn_c partOn_nil partOn_c partVals_nil partVals_c fits_nil fits_c fillL_nil fillL_c mkv_one mkv_agg cellsV_agg cellsV_int cellsV_bool cellsV_slice cellsV_string cellsV_pointer cellsV_func cellsV_nilf cellsV_map one'_nil one'_c oc_int oc_bool oc_slice oc_string oc_pointer oc_func oc_nilf oc_map setC_eq iv_add iv_sub iv_mul iv_eql iv_neq iv_lss iv_leq iv_gtr iv_geq iok_add iok_sub iok_mul iok_eql iok_neq iok_lss iok_leq iok_gtr iok_geq pickV_bool args0_nil args0_c bnd_none bnd_some imp_bt imp_bf imp_ebt imp_ebf imp_eb1 imp_np imp_pp beq_tt beq_tf beq_ft beq_ff cond_or cond_and e_round e_meet Int.le_refl Int.toNat_zero decide_true decide_false Bool.or_false Bool.false_or Bool.true_or Bool.or_true Bool.and_false Bool.false_and Bool.bne_false Bool.bne_true beq_iff_eq Int.cast_ofNat_Int not_false_eq_true not_true_eq_false false_and and_false false_implies true_implies true_and and_true Bool.true_and Bool.and_true Bool.not_true Bool.not_false forall_const implies_true List.take_zero List.drop_zero List.take_succ_cons List.drop_succ_cons List.take_nil List.drop_nil List.length_cons List.length_nil List.nil_append List.append_nil List.cons_append Int.toNat_natCast decide_eq_true_eq decide_eq_false_iff_not cond_true cond_false and_self List.getElem?_cons_zero List.getElem?_cons_succ List.set_cons_zero List.set_cons_succ Option.some.injEq exists_eq_left' Nat.zero_add Nat.add_zero Nat.mul_one imp_self true_or or_true or_false false_or Bool.or_eq_true Bool.or_eq_false_iff Bool.and_eq_true Bool.and_eq_false_iff Bool.not_eq_true' Bool.not_eq_false'

theorem MinS.len {d m : Da} (V : VD d) (h : MinS d m) : m.nx.length ≤ d.nx.length := by
  obtain ⟨R, h1, h2, h3, h4⟩ := h
  have I := h1.inv V
  rw [h2]
  rcases I.live with q | q
  · have hnd : (d.nx.length :: R).Nodup := by
      rw [List.nodup_cons]
      refine ⟨fun hq => q _ hq ((dead_eq V).1 (EqX.refl _ _)), ?_⟩
      rw [List.Nodup, List.pairwise_iff_getElem]
      intro i j hi hj hij e
      have := I.dif i j _ _ (List.getElem?_eq_getElem hi) (List.getElem?_eq_getElem hj) (by rw [e]; exact EqX.refl _ _)
      omega
    have := nodup_bound (d.nx.length + 1) _ hnd (fun x hx => by
      rcases List.mem_cons.1 hx with rfl | hx
      · omega
      · have := I.le x hx; omega)
    simp at this
    omega
  · have := V.len; omega
theorem VD.zero {d : Da} (V : VD d) : dfF d = 0 := by
  have h1 := V.len
  have h2 := V.acc
  have h3 := V.cols
  have h4 := V.st
  unfold dfF
  rw [if_neg (by omega), if_neg (by omega), if_neg (by omega), if_neg, if_neg]
  · rintro (h | h | ⟨x, hx, h⟩ | ⟨r, hr, x, hx, h⟩)
    · omega
    · omega
    · have := V.ac x hx; omega
    · have := V.to r hr x hx; omega
  · rintro ⟨r, hr, h⟩
    have := V.row r hr
    omega
theorem tl_acc {d : Da} (V : VD d) {w : List Int} (hw : okW d w) : decide (0 ≤ tlN d d.st.toNat w) = accP d (goD d d.st w) := by
  have hst := V.st
  have h := stI_go V (w := w) (s := d.st.toNat) (by omega) hw
  rw [stI_st V] at h
  rw [← h.1]
  have hac := V.acc
  unfold tlN fA stI accP accD
  by_cases q : goN d d.st.toNat w < d.nx.length
  · rw [if_pos q, getD_append_l (by omega), List.getD_eq_getElem?_getD, List.getElem?_eq_getElem (by omega)]
    simp [List.getD_eq_getElem?_getD, List.getElem?_eq_getElem (show goN d d.st.toNat w < d.ac.length by omega)]
  · rw [if_neg q]
    have e : goN d d.st.toNat w = d.ac.length := by omega
    rw [e, getD_append_at]
    simp
/-- an automaton that is asked about -/
def GoodM (L : List Int → Bool) (k N : Nat) (m : Da) : Prop := ∃ ends rows g, TabL L k ends rows ∧ GuessL L k ends rows g ∧ VD g ∧ MinS g m ∧ rows.length ≤ N
theorem GoodM.valid {L : List Int → Bool} {k N : Nat} {m : Da} (h : GoodM L k N m) : VD m ∧ colsD m = k ∧ m.nx.length ≤ N ∧ m.st = 0 := by
  obtain ⟨ends, rows, g, T, G, V, M, hb⟩ := h
  obtain ⟨h1, h2, _⟩ := M.valid V
  refine ⟨h1, by rw [h2, G.cols T], by have := M.len V; rw [G.len] at this; omega, ?_⟩
  obtain ⟨R, _, _, h3, _⟩ := M
  exact h3
/-- a function value that compares automata with a language -/
def EqOk (Γr : Ctx) (fv : Value) (k N : Nat) (rel : Da → Bool → List Int → Prop) : Prop := ∃ f c1 c2, fv = .func (.func f) c1 c2 ∧ ∀ (Γ : Ctx) (d : Da) (A B : Option Addr) (c e : Nat), Mem.le (lk Γr) (lk Γ) → SlOk (lk Γ) A c d.ac → SlOk (lk Γ) B e d.nx → VD d → colsD d = k → d.nx.length ≤ N → d.st = 0 →
  Ret Try.prog f (c1.toList ++ [.agg #[.int .i64 0, .slice A d.ac.length c, .slice B d.nx.length e]] ++ c2.toList) Γ [] (fun v Γ' => ∃ g b w W c, Γ' = [g] ∧ v = .tuple #[.bool b, .slice W w.length c] ∧ SlOk (lk (g :: Γ)) W c w ∧ w.length ≤ 2000000 ∧ rel d b w)
def zeroD : Da := ⟨0, [], []⟩
/-- what learn.Of returns -/
def OfS (L : List Int → Bool) (k N : Nat) (rel : Da → Bool → List Int → Prop) (r : Da) (e : Int) : Prop := (e = 0 ∧ GoodM L k N r ∧ ∃ w, rel r true w) ∨
  (r = zeroD ∧ ∃ m w, GoodM L k N m ∧ rel m false w ∧ ((e = 2 ∧ 2000 < w.length) ∨ (e = 1 ∧ w.length ≤ 2000 ∧ ¬ okK k w) ∨ (e = 7 ∧ w.length ≤ 2000 ∧ okK k w ∧ decide (0 ≤ tlN m 0 w) = L w)))
theorem learn_of {Γr : Ctx} {k N : Nat} (hk : 1 ≤ k ∧ k ≤ 16) {L : List Int → Bool} {mv ev : Value} {rel : Da → Bool → List Int → Prop} (hm : MemOk Γr mv k L) (he : EqOk Γr ev k N rel) (hN : ClsL L k N) (hN2 : N ≤ 200) :
    Ret Try.prog 85 [.int .i64 (k : Int), mv, ev] Γr [] (fun v Γ => ∃ g r e A B c d, Γ = [g] ∧ v = .tuple #[.agg #[.int .i64 0, .slice A r.ac.length c, .slice B r.nx.length d], .int .i64 e] ∧ SlOk (lk [g]) A c r.ac ∧ SlOk (lk [g]) B d r.nx ∧ OfS L k N rel r e) := by
  generalize hR : (fun (v : Value) (Γ : Ctx) => ∃ g r e A B c d, _) = R
  refine ret_of_vc tr85 (Nat.le_of_ble_eq_true rfl) ?_
  obtain ⟨ef, ec1, ec2, rfl, hcall⟩ := he
  obtain ⟨mf, mc1, mc2, rfl, hmc⟩ := hm
  have hm : MemOk Γr (.func (.func mf) mc1 mc2) k L := ⟨mf, mc1, mc2, rfl, hmc⟩
  simp -implicitDefEqProofs only [S85, S85_0, go_sem, Nat.reduceBEq, Nat.reduceAdd, Nat.reduceSub, Nat.reduceMul, Nat.reduceLeDiff, reduceCtorEq, ↓reduceIte, Int.reduceLT, Int.reduceLE, Int.reduceEq, Int.reduceNe]
  intro b6
  refine ⟨fun h => by omega, fun _ => ?_⟩
  refine s_mkmap fun bk => ?_
  simp -implicitDefEqProofs only [go_sem, Nat.reduceBEq, Nat.reduceAdd, Nat.reduceSub, Nat.reduceMul, Nat.reduceLeDiff, reduceCtorEq, ↓reduceIte, Int.reduceLT, Int.reduceLE, Int.reduceEq, Int.reduceNe]
  intro b7 b8 t
  refine s_loop (fun f vs Γ => ∃ (bb : Nat) (ends rows : List (List Int)), vs = [.box bb 67 [.int .i64 0, .slice none 0 0, .slice none 0 0]] ∧ TabW t bk k (.func (.func mf) mc1 mc2) L ends rows Γ ∧ TabL L k ends rows ∧ ends.length ≤ rows.length + 1 ∧
      ((f = N + 1 ∧ ends.length ≤ rows.length) ∨ (OpenL L k ends rows ∧ f + rows.length = N))) (N + 1)
    (Up.sel [[3], [0], [2], [], [1], []] (by decide) fun _ _ => ⟨b6, [[]], [[]], rfl, ⟨_, _, _, _, _, _, _, _, _, _, rfl, one_self _ _, ?_, ?_, ⟨[], MapM.new _ _ _ _, by simp⟩⟩, TabL.init L k, by simp, .inl ⟨rfl, by simp⟩⟩) ?_
  · exact lit_bld1 (α := List Int) (T := 29) (cs := [.slice none 0 0]) [] ⟨none, 0, rfl, SlOk.nil⟩
  · exact lit_bld1 (α := List Int) (T := 29) (cs := [.slice none 0 0]) [] ⟨none, 0, rfl, SlOk.nil⟩
  rintro f vs Γ0 ⟨bb, ends, rows0, rfl, hW, hT0, hel, hf⟩
  have hb0 := hT0.bound hN
  simp -implicitDefEqProofs only [S85_2, go_sem, Nat.reduceBEq, Nat.reduceAdd, Nat.reduceSub, Nat.reduceMul, Nat.reduceLeDiff, reduceCtorEq, ↓reduceIte, Int.reduceLT, Int.reduceLE, Int.reduceEq, Int.reduceNe]
  refine CallVC.perm (Γm := Γ0) (Γf := []) (learn_close (Γr := Γr) hm hk hN hN2 (by omega) hT0 hW) (by simp) (List.Sublist.refl _) ?_
  rintro v Γ1 ⟨rows, rfl, hW, hT, hpre, hC⟩
  have hb := hT.bound hN
  have hpl := hpre.length_le
  have hgrow : OpenL L k ends rows0 → rows0.length < rows.length := fun hO => closed_more hO hpre hC
  have hel2 : ends.length ≤ rows.length := by
    rcases hf with h | ⟨h, _⟩
    · omega
    · have := hgrow h; omega
  have hΓ1 : Γ1.length = 6 := by obtain ⟨gk, gt, gr, gl, ge, gf, Ar, Ae, cr, ce, rfl, _⟩ := hW; rfl
  simp -implicitDefEqProofs only [go_sem, Nat.reduceBEq, Nat.reduceAdd, Nat.reduceSub, Nat.reduceMul, Nat.reduceLeDiff, reduceCtorEq, ↓reduceIte, Int.reduceLT, Int.reduceLE, Int.reduceEq, Int.reduceNe]
  refine CallVC.perm (Γm := Γ1) (Γf := []) (learn_guess (Γr := Γr) hm hk (by omega) hT hC (by omega) hW) (by simp) (List.Sublist.refl _) ?_
  clear hW
  rintro v Γ' ⟨Γ2, gg, g, A1, c1, B1, e1, rfl, hW, rfl, hSA, hSB, G⟩
  have V := G.valid hT hk (by omega)
  have hgok : ∀ x ∈ g.ac, okI x := fun x hx => by
    rw [G.ac] at hx
    obtain ⟨w, _, rfl⟩ := List.mem_map.1 hx
    split
    · exact wf64 (by omega) (by omega)
    · exact wf64 (by omega) (by omega)
  have hgst := G.st
  simp -implicitDefEqProofs only [go_sem, Nat.reduceBEq, Nat.reduceAdd, Nat.reduceSub, Nat.reduceMul, Nat.reduceLeDiff, reduceCtorEq, ↓reduceIte, Int.reduceLT, Int.reduceLE, Int.reduceEq, Int.reduceNe]
  have hmin := mini_min (Γr := (gg :: Γ2) ++ Γr) (d := g) hgok (hSA.mono (lk_sub fun g hg => by simp at hg; subst hg; simp)) (hSB.mono (lk_sub fun g hg => by simp at hg; subst hg; simp))
  rw [hgst] at hmin
  refine CallVC.read hmin ?_
  rintro v Γ' (⟨h, _⟩ | ⟨_, gm, m, A2, c2, B2, e2, rfl, rfl, hS2, hS3, hM⟩)
  · exact absurd V.zero h
  have hGM : GoodM L k N m := ⟨ends, rows, g, hT, G, V, hM, hb⟩
  obtain ⟨Vm, hcm, hml, hmst⟩ := hGM.valid
  have hmo := Vm.acc
  simp -implicitDefEqProofs only [go_sem, Nat.reduceBEq, Nat.reduceAdd, Nat.reduceSub, Nat.reduceMul, Nat.reduceLeDiff, reduceCtorEq, ↓reduceIte, Int.reduceLT, Int.reduceLE, Int.reduceEq, Int.reduceNe]
  intro b9
  have hclo := learn_clone (Γr := (gm :: gg :: Γ2) ++ Γr) (d := m) (hS2.mono (lk_sub fun g hg => by simp at hg; subst hg; simp)) (hS3.mono (lk_sub fun g hg => by simp at hg; subst hg; simp)) (by omega) (by omega) (fun r hr => by have := Vm.row r hr; omega)
  rw [hmst] at hclo
  refine CallVC.read hclo ?_
  rintro v Γ' ⟨gc, A4, c4, B4, e4, rfl, rfl, hS4, hS5⟩
  simp -implicitDefEqProofs only [go_sem, Nat.reduceBEq, Nat.reduceAdd, Nat.reduceSub, Nat.reduceMul, Nat.reduceLeDiff, reduceCtorEq, ↓reduceIte, Int.reduceLT, Int.reduceLE, Int.reduceEq, Int.reduceNe]
  refine CallVC.read (hcall ((gc :: gm :: gg :: Γ2) ++ Γr) m A4 B4 c4 e4 (lk_r _ _) (hS4.mono (lk_sub fun g hg => by simp at hg; subst hg; simp)) (hS5.mono (lk_sub fun g hg => by simp at hg; subst hg; simp)) Vm hcm hml hmst) ?_
  rintro v Γ' ⟨gq, yes, w, W, cw, rfl, rfl, hSw, hwl, hrel⟩
  simp -implicitDefEqProofs only [go_sem, Nat.reduceBEq, Nat.reduceAdd, Nat.reduceSub, Nat.reduceMul, Nat.reduceLeDiff, reduceCtorEq, ↓reduceIte, Int.reduceLT, Int.reduceLE, Int.reduceEq, Int.reduceNe]
  refine ⟨fun hy => Up.sel [[2]] (by decide) fun _ _ => ?_, fun hy => ?_⟩
  · subst hR
    exact ⟨gm, m, 0, A2, B2, c2, e2, rfl, rfl, hS2, hS3, .inl ⟨rfl, hGM, w, by rw [hy] at hrel; exact hrel⟩⟩
  have hy : yes = false := by simpa using hy
  rw [hy] at hrel
  refine s_appS (α := Int) (ix := 1) (xs := []) (L := lk []) rfl (Bld.nil gc _ _) (hSw.mono (lk_sub fun g hg => by simp at hg ⊢; exact hg)) rfl (Mem.le.refl _) rfl (by simp; omega) (by simp; unfold maxLen; omega) ?_
  intro vw gc' hBw _
  rw [List.nil_append] at hBw
  obtain ⟨W2, cw2, rfl, hSw2⟩ := hBw.slok (L' := lk [gc']) (Mem.le.refl _) (fun b o ⟨x, hx, _⟩ => by cases hx) (by omega)
  clear hSw hS4 hS5
  have hz : ∀ x : Int, (∃ m w, GoodM L k N m ∧ rel m false w ∧ ((x = 2 ∧ 2000 < w.length) ∨ (x = 1 ∧ w.length ≤ 2000 ∧ ¬ okK k w) ∨ (x = 7 ∧ w.length ≤ 2000 ∧ okK k w ∧ decide (0 ≤ tlN m 0 w) = L w))) → R (.tuple #[.agg #[.int .i64 0, .slice none 0 0, .slice none 0 0], .int .i64 x]) [emp] := fun x hx => by
    subst hR
    exact ⟨emp, zeroD, x, none, none, 0, 0, rfl, rfl, SlOk.nil, SlOk.nil, .inr ⟨rfl, hx⟩⟩
  simp -implicitDefEqProofs only [go_sem, Nat.reduceBEq, Nat.reduceAdd, Nat.reduceSub, Nat.reduceMul, Nat.reduceLeDiff, reduceCtorEq, ↓reduceIte, Int.reduceLT, Int.reduceLE, Int.reduceEq, Int.reduceNe]
  refine ⟨fun h => Up.to _ (Ent.nil _ |>.trans (Ent.emp [])) (hz 2 ⟨m, w, hGM, hrel, .inl ⟨rfl, by omega⟩⟩), fun h => ?_⟩
  have hw2 : w.length ≤ 2000 := by omega
  refine s_loop (fun f vs Γ => ∃ (i bb : Nat), vs = [.box bb 67 [.int .i64 0, .slice none 0 0, .slice none 0 0], .v true (.int .i64 i)] ∧ i + f = w.length ∧ Γ = gq :: gc' :: gm :: gg :: Γ2 ∧ okK k (w.take i)) w.length
    (Up.here ⟨0, bb, rfl, by omega, rfl, by simp [okK]⟩) ?_
  rintro f2 vs Γ ⟨i, bb2, rfl, hif, rfl, hok⟩
  simp -implicitDefEqProofs only [S85_1, go_sem, Nat.reduceBEq, Nat.reduceAdd, Nat.reduceSub, Nat.reduceMul, Nat.reduceLeDiff, reduceCtorEq, ↓reduceIte, Int.reduceLT, Int.reduceLE, Int.reduceEq, Int.reduceNe]
  refine ⟨fun hlt => ?_, fun hge => ?_⟩
  · have hi : i < w.length := by omega
    obtain ⟨x, hx⟩ : ∃ x, x = w[i] := ⟨_, rfl⟩
    obtain ⟨b10, o10, hA10, hc10⟩ := hSw2.int hi
    rw [← hx] at hc10
    refine s_idx hA10 (by omega) (by omega) ?_
    simp -implicitDefEqProofs only [go_sem, Nat.reduceBEq, Nat.reduceAdd, Nat.reduceSub, Nat.reduceMul, Nat.reduceLeDiff, reduceCtorEq, ↓reduceIte, Int.reduceLT, Int.reduceLE, Int.reduceEq, Int.reduceNe]
    refine s_ld0 (hc10 _ (lk_sub fun g hg => by simp at hg; subst hg; simp)) (by simp) (by simp) ?_
    simp -implicitDefEqProofs only [go_sem, Nat.reduceBEq, Nat.reduceAdd, Nat.reduceSub, Nat.reduceMul, Nat.reduceLeDiff, reduceCtorEq, ↓reduceIte, Int.reduceLT, Int.reduceLE, Int.reduceEq, Int.reduceNe]
    refine ⟨fun h => Up.to _ (Ent.nil _ |>.trans (Ent.emp [])) (hz 1 ⟨m, w, hGM, hrel, .inr (.inl ⟨rfl, hw2, fun q => by have := q x (hx ▸ List.getElem_mem hi); omega⟩)⟩), fun h => ?_⟩
    · simp (disch := omega) only [wrap_id]
      refine ⟨f2 - 1, by omega, Up.here ⟨i + 1, bb2, rfl, by omega, rfl, ?_⟩⟩
      rw [List.take_succ_eq_append_getElem hi, ← hx]
      exact okK_app.2 ⟨hok, fun y hy => by simp at hy; subst hy; omega⟩
  have hi : i = w.length := by omega
  rw [hi, List.take_length] at hok
  have hokm : okW m w := by rw [okW, hcm]; exact hok
  have hacc := learn_accepts (Γr := (gq :: gc' :: gm :: gg :: Γ2) ++ Γr) Vm (hS2.mono (lk_sub fun g hg => by simp at hg; subst hg; simp)) (hS3.mono (lk_sub fun g hg => by simp at hg; subst hg; simp)) (hSw2.mono (lk_sub fun g hg => by simp at hg; subst hg; simp)) hokm
  rw [hmst] at hacc
  have hta := tl_acc Vm hokm
  rw [hmst] at hta
  rw [← hta] at hacc
  refine CallVC.read hacc ?_
  rintro v Γ' ⟨rfl, rfl⟩
  obtain ⟨gk, gt, gr, gl, ge, gf, Ar, Ae, cr, ce, rfl, hgt, hBr, hBe, hK⟩ := hW
  simp -implicitDefEqProofs only [go_sem, Nat.reduceBEq, Nat.reduceAdd, Nat.reduceSub, Nat.reduceMul, Nat.reduceLeDiff, reduceCtorEq, ↓reduceIte, Int.reduceLT, Int.reduceLE, Int.reduceEq, Int.reduceNe]
  refine CallVC.perm (Γm := [gk]) (Γf := [gq, gc', gm, gg, gt, gr, gl, ge, gf]) (learn_ask (Γr := [gq, gc', gm, gg, gt, gr, gl, ge, gf] ++ Γr) ⟨gt, by simp, hgt⟩ (hm.mono (lk_r _ _)) hK hk.2 (hSw2.mono (lk_sub fun g hg => by simp at hg; subst hg; simp)) hok (by omega)) (List.perm_middle (l₁ := [gq, gc', gm, gg])) (List.Sublist.refl _) ?_
  rintro v Γ' ⟨gk', rfl, hK', rfl⟩
  simp -implicitDefEqProofs only [go_sem, Nat.reduceBEq, Nat.reduceAdd, Nat.reduceSub, Nat.reduceMul, Nat.reduceLeDiff, reduceCtorEq, ↓reduceIte, Int.reduceLT, Int.reduceLE, Int.reduceEq, Int.reduceNe]
  refine ⟨fun h => Up.to _ (Ent.nil _ |>.trans (Ent.emp [])) (hz 7 ⟨m, w, hGM, hrel, .inr (.inr ⟨rfl, hw2, hok, by simpa using h⟩)⟩), fun h => ?_⟩
  have hmg : tlN m 0 w = tlN g 0 w := by
    have := (hM.valid V).2.2 w (by rw [okW, G.cols hT]; exact hok)
    rw [hgst] at this
    exact this
  have hr0l := (List.getElem?_eq_some_iff.1 hT.row0).1
  have hW : TabW t bk k (.func (.func mf) mc1 mc2) L ends rows [gk', gt, gr, gl, ge, gf] := ⟨gk', gt, gr, gl, ge, gf, Ar, Ae, cr, ce, rfl, hgt, hBr, hBe, hK'⟩
  refine CallVC.perm (Γm := [gk', gt, gr, gl, ge, gf]) (Γf := [gq, gc', gm, gg]) (learn_split (Γr := [gq, gc', gm, gg] ++ Γr) (hm.mono (lk_r _ _)) hk (by omega) hT hC (by omega) hW (hSw2.mono (lk_sub fun g hg => by simp at hg; subst hg; simp)) hok hw2 (fun g' G' => ?_)) ?_ (List.Sublist.refl _) ?_
  · rw [← G.same G' hT hr0l hok, ← hmg]
    simpa using h
  · exact List.Perm.cons _ (List.perm_append_comm (l₁ := [gq, gc', gm, gg]) (l₂ := [gt, gr, gl, ge, gf]))
  rintro v Γ3 ⟨e, hW', hT', hO'⟩
  simp -implicitDefEqProofs only [go_sem, Nat.reduceBEq, Nat.reduceAdd, Nat.reduceSub, Nat.reduceMul, Nat.reduceLeDiff, reduceCtorEq, ↓reduceIte, Int.reduceLT, Int.reduceLE, Int.reduceEq, Int.reduceNe]
  refine ⟨N - rows.length, ?_, ?_⟩
  · rcases hf with ⟨h1, _⟩ | ⟨hO, h1⟩
    · omega
    · have := hgrow hO; omega
  · refine Up.to Γ3 (Ent.sub (List.sublist_append_left _ _)) ⟨bb2, ends ++ [e], rows, rfl, hW', hT', by simp; omega, .inr ⟨hO', by omega⟩⟩
end Go.Proofs.Ytniobbepliknmaa.V
/- The text of parlance/parllaw5.LearnRefuses as a statement (slots: 0 symbols, 1 w, 2 symbols, 3 w, 5 x, 6 e, 7 k, 8 _, 9 y); no condition. -/
namespace Go.Proofs.Ytniobbepliknmaa.V
open Go
def S16_1 : Stmt :=
  Stmt.seq
  (Stmt.region [SOper.mk (some 47) none (SOp.ibin BinOp.lss (Operand.tmp 46) (Operand.tmp 45))]
    [5, 6, 7, 44, 45, 46, 47])
  (Stmt.seq (Stmt.cond (Operand.tmp 47) Stmt.skip (Stmt.exit 0))
    (Stmt.seq
      (Stmt.block 1
        (Stmt.seq
          (Stmt.region
            [SOper.mk (some 48) none (SOp.idx 1 (Operand.tmp 44) (Operand.tmp 46)),
              SOper.mk (some 49) none (SOp.load false 1 (Operand.tmp 48)),
              SOper.mk (some 9) none (SOp.mv (Operand.tmp 49))]
            [5, 6, 7, 9, 44, 45, 46])
          (Stmt.seq
            (Stmt.region
              [SOper.mk (some 50) none (SOp.mv (Operand.tmp 9)),
                SOper.mk (some 51) none (SOp.ibin BinOp.lss (Operand.tmp 50) (Operand.const (Value.int IntKind.i64 0))),
                SOper.mk (some 52) none (SOp.mv (Operand.tmp 51)),
                SOper.mk (some 53) (some (52, false)) (SOp.mv (Operand.tmp 9)),
                SOper.mk (some 54) (some (52, false)) (SOp.mv (Operand.tmp 7)),
                SOper.mk (some 55) (some (52, false)) (SOp.ibin BinOp.geq (Operand.tmp 53) (Operand.tmp 54)),
                SOper.mk (some 56) none (SOp.pick (Operand.tmp 52) (Operand.const (Value.bool true)) (Operand.tmp 55))]
              [5, 6, 7, 44, 45, 46, 56])
            (Stmt.cond (Operand.tmp 56)
              (Stmt.seq
                (Stmt.region
                  [SOper.mk (some 57) none (SOp.mv (Operand.tmp 6)),
                    SOper.mk (some 58) none
                      (SOp.ibin BinOp.eql (Operand.tmp 57) (Operand.const (Value.int IntKind.i64 1))),
                    SOper.mk (some 59) none (SOp.mv (Operand.tmp 58)),
                    SOper.mk (some 60) (some (59, true)) (SOp.fld 2 (Operand.tmp 5)),
                    SOper.mk (some 61) (some (59, true)) (SOp.load false 1 (Operand.tmp 60)),
                    SOper.mk (some 62) (some (59, true)) (SOp.len false (Operand.tmp 61)),
                    SOper.mk (some 63) (some (59, true))
                      (SOp.ibin BinOp.eql (Operand.tmp 62) (Operand.const (Value.int IntKind.i64 0))),
                    SOper.mk (some 64) none
                      (SOp.pick (Operand.tmp 59) (Operand.tmp 63) (Operand.const (Value.bool false))),
                    SOper.mk (some 4) none (SOp.mv (Operand.tmp 64))]
                  [4])
                Stmt.ret)
              Stmt.skip))))
      (Stmt.region
        [SOper.mk (some 65) none (SOp.ibin BinOp.add (Operand.tmp 46) (Operand.const (Value.int IntKind.i64 1))),
          SOper.mk (some 46) none (SOp.mv (Operand.tmp 65))]
        [5, 6, 7, 44, 45, 46])))
def S16_0 : Stmt :=
  Stmt.seq
  (Stmt.region
    [SOper.mk (some 3) none (SOp.box false 29 (Operand.tmp 1)),
      SOper.mk (some 4) none (SOp.mv (Operand.const (Value.bool false)))]
    [0, 3])
  (Stmt.seq
    (Stmt.region
      [SOper.mk (some 11) none
          (SOp.call (Operand.func 85) [Operand.const (Value.int IntKind.i64 2), Operand.func 86, Operand.func 87]),
        SOper.mk (some 10) none (SOp.mv (Operand.tmp 11)), SOper.mk (some 12) none (SOp.extract 0 (Operand.tmp 10)),
        SOper.mk (some 13) none (SOp.extract 1 (Operand.tmp 10)),
        SOper.mk (some 5) none
          (SOp.alloc true 67
            (Value.agg (Array.mk [Value.int IntKind.i64 0, Value.slice none 0 0, Value.slice none 0 0]))),
        SOper.mk none none (SOp.store 3 (Operand.tmp 5) (Operand.tmp 12)),
        SOper.mk (some 6) none (SOp.mv (Operand.tmp 13))]
      [0, 3, 5, 6])
    (Stmt.seq
      (Stmt.seq
        (Stmt.region
          [SOper.mk (some 14) none (SOp.mv (Operand.tmp 6)),
            SOper.mk (some 15) none (SOp.ibin BinOp.neq (Operand.tmp 14) (Operand.const (Value.int IntKind.i64 7))),
            SOper.mk (some 16) none (SOp.mv (Operand.tmp 15)),
            SOper.mk (some 17) (some (16, false)) (SOp.fld 2 (Operand.tmp 5)),
            SOper.mk (some 18) (some (16, false)) (SOp.load false 1 (Operand.tmp 17)),
            SOper.mk (some 19) (some (16, false)) (SOp.len false (Operand.tmp 18)),
            SOper.mk (some 20) (some (16, false))
              (SOp.ibin BinOp.gtr (Operand.tmp 19) (Operand.const (Value.int IntKind.i64 0))),
            SOper.mk (some 21) none (SOp.pick (Operand.tmp 16) (Operand.const (Value.bool true)) (Operand.tmp 20))]
          [0, 3, 5, 21])
        (Stmt.cond (Operand.tmp 21)
          (Stmt.seq (Stmt.region [SOper.mk (some 4) none (SOp.mv (Operand.const (Value.bool false)))] [4]) Stmt.ret)
          Stmt.skip))
      (Stmt.seq
        (Stmt.region
          [SOper.mk (some 22) none (SOp.mv (Operand.tmp 0)),
            SOper.mk (some 23) none (SOp.idiv BinOp.rem (Operand.tmp 22) (Operand.const (Value.int IntKind.i64 16))),
            SOper.mk (some 24) none (SOp.ibin BinOp.add (Operand.tmp 23) (Operand.const (Value.int IntKind.i64 16))),
            SOper.mk (some 25) none (SOp.idiv BinOp.rem (Operand.tmp 24) (Operand.const (Value.int IntKind.i64 16))),
            SOper.mk (some 26) none (SOp.ibin BinOp.add (Operand.tmp 25) (Operand.const (Value.int IntKind.i64 1))),
            SOper.mk (some 7) none (SOp.mv (Operand.tmp 26))]
          [3, 5, 7])
        (Stmt.seq
          (Stmt.region
            [SOper.mk (some 28) none (SOp.mv (Operand.tmp 7)), SOper.mk (some 29) none (SOp.mkFunc 89 [Operand.tmp 3]),
              SOper.mk (some 30) none (SOp.call (Operand.func 85) [Operand.tmp 28, Operand.func 88, Operand.tmp 29]),
              SOper.mk (some 27) none (SOp.mv (Operand.tmp 30)),
              SOper.mk (some 31) none (SOp.extract 0 (Operand.tmp 27)),
              SOper.mk (some 32) none (SOp.extract 1 (Operand.tmp 27)),
              SOper.mk none none (SOp.store 3 (Operand.tmp 5) (Operand.tmp 31)),
              SOper.mk (some 6) none (SOp.mv (Operand.tmp 32))]
            [3, 5, 6, 7])
          (Stmt.seq
            (Stmt.seq
              (Stmt.region
                [SOper.mk (some 33) none (SOp.load false 1 (Operand.tmp 3)),
                  SOper.mk (some 34) none (SOp.len false (Operand.tmp 33)),
                  SOper.mk (some 35) none
                    (SOp.ibin BinOp.gtr (Operand.tmp 34) (Operand.const (Value.int IntKind.i64 2000)))]
                [3, 5, 6, 7, 35])
              (Stmt.cond (Operand.tmp 35)
                (Stmt.seq
                  (Stmt.region
                    [SOper.mk (some 36) none (SOp.mv (Operand.tmp 6)),
                      SOper.mk (some 37) none
                        (SOp.ibin BinOp.eql (Operand.tmp 36) (Operand.const (Value.int IntKind.i64 2))),
                      SOper.mk (some 38) none (SOp.mv (Operand.tmp 37)),
                      SOper.mk (some 39) (some (38, true)) (SOp.fld 2 (Operand.tmp 5)),
                      SOper.mk (some 40) (some (38, true)) (SOp.load false 1 (Operand.tmp 39)),
                      SOper.mk (some 41) (some (38, true)) (SOp.len false (Operand.tmp 40)),
                      SOper.mk (some 42) (some (38, true))
                        (SOp.ibin BinOp.eql (Operand.tmp 41) (Operand.const (Value.int IntKind.i64 0))),
                      SOper.mk (some 43) none
                        (SOp.pick (Operand.tmp 38) (Operand.tmp 42) (Operand.const (Value.bool false))),
                      SOper.mk (some 4) none (SOp.mv (Operand.tmp 43))]
                    [4])
                  Stmt.ret)
                Stmt.skip))
            (Stmt.seq
              (Stmt.seq
                (Stmt.region
                  [SOper.mk (some 44) none (SOp.load false 1 (Operand.tmp 3)),
                    SOper.mk (some 45) none (SOp.len false (Operand.tmp 44)),
                    SOper.mk (some 46) none (SOp.mv (Operand.const (Value.int IntKind.i64 0)))]
                  [5, 6, 7, 44, 45, 46])
                (Stmt.block 0 (Stmt.loop S16_1 [46] [5, 6, 7, 44, 45])))
              (Stmt.seq
                (Stmt.region
                  [SOper.mk (some 66) none (SOp.mv (Operand.tmp 6)),
                    SOper.mk (some 67) none
                      (SOp.ibin BinOp.eql (Operand.tmp 66) (Operand.const (Value.int IntKind.i64 7))),
                    SOper.mk (some 68) none (SOp.mv (Operand.tmp 67)),
                    SOper.mk (some 69) (some (68, true)) (SOp.fld 2 (Operand.tmp 5)),
                    SOper.mk (some 70) (some (68, true)) (SOp.load false 1 (Operand.tmp 69)),
                    SOper.mk (some 71) (some (68, true)) (SOp.len false (Operand.tmp 70)),
                    SOper.mk (some 72) (some (68, true))
                      (SOp.ibin BinOp.eql (Operand.tmp 71) (Operand.const (Value.int IntKind.i64 0))),
                    SOper.mk (some 73) none
                      (SOp.pick (Operand.tmp 68) (Operand.tmp 72) (Operand.const (Value.bool false))),
                    SOper.mk (some 4) none (SOp.mv (Operand.tmp 73))]
                  [4])
                Stmt.ret)))))))
def S16 : FnS := ⟨74, [(4, none)], S16_0⟩
theorem tr16 : trFn Try.prog 16 [5] [[0, 3], [0, 3, 5, 6], [0, 3, 5, 21], [4], [3, 5, 7], [3, 5, 6, 7], [3, 5, 6, 7, 35], [4], [5, 6, 7, 44, 45, 46], [46], [5, 6, 7, 44, 45], [5, 6, 7, 44, 45, 46, 47], [5, 6, 7, 9, 44, 45, 46], [5, 6, 7, 44, 45, 46, 56], [4], [5, 6, 7, 44, 45, 46], [4]] = some S16 := by kernel_rfl
end Go.Proofs.Ytniobbepliknmaa.V
/- The text of parlance/parllaw5.LearnRefuses$1 as a statement (slots: 0 w, 1 w); no condition. -/
namespace Go.Proofs.Ytniobbepliknmaa.V
open Go
def S86_0 : Stmt :=
  Stmt.seq (Stmt.region [SOper.mk (some 2) none (SOp.mv (Operand.const (Value.bool false)))] [])
  (Stmt.seq (Stmt.region [SOper.mk (some 2) none (SOp.mv (Operand.const (Value.bool true)))] [2]) Stmt.ret)
def S86 : FnS := ⟨3, [(2, none)], S86_0⟩
theorem tr86 : trFn Try.prog 86 [] [[], [2]] = some S86 := by kernel_rfl
end Go.Proofs.Ytniobbepliknmaa.V
/- The text of parlance/parllaw5.LearnRefuses$2 as a statement (slots: 0 d, 1 d); no condition. -/
namespace Go.Proofs.Ytniobbepliknmaa.V
open Go
def S87_0 : Stmt :=
  Stmt.seq
  (Stmt.region
    [SOper.mk (some 1) none (SOp.box true 67 (Operand.tmp 0)),
      SOper.mk (some 2) none (SOp.mv (Operand.const (Value.bool false))),
      SOper.mk (some 3) none (SOp.mv (Operand.const (Value.slice none 0 0)))]
    [])
  (Stmt.seq
    (Stmt.region
      [SOper.mk (some 4) none
          (SOp.buildS 3 1 [Value.int IntKind.i64 0] [(0, 1, Operand.const (Value.int IntKind.i64 0))]),
        SOper.mk (some 2) none (SOp.mv (Operand.const (Value.bool false))),
        SOper.mk (some 3) none (SOp.mv (Operand.tmp 4))]
      [2, 3])
    Stmt.ret)
def S87 : FnS := ⟨5, [(2, none), (3, none)], S87_0⟩
theorem tr87 : trFn Try.prog 87 [1] [[], [2, 3]] = some S87 := by kernel_rfl
end Go.Proofs.Ytniobbepliknmaa.V
/- The text of parlance/parllaw5.LearnRefuses$3 as a statement (slots: 0 w, 1 w); no condition. -/
namespace Go.Proofs.Ytniobbepliknmaa.V
open Go
def S88_0 : Stmt :=
  Stmt.seq (Stmt.region [SOper.mk (some 2) none (SOp.mv (Operand.const (Value.bool false)))] [0])
  (Stmt.seq
    (Stmt.region
      [SOper.mk (some 3) none (SOp.mv (Operand.tmp 0)), SOper.mk (some 4) none (SOp.len false (Operand.tmp 3)),
        SOper.mk (some 5) none (SOp.idiv BinOp.rem (Operand.tmp 4) (Operand.const (Value.int IntKind.i64 2))),
        SOper.mk (some 6) none (SOp.ibin BinOp.eql (Operand.tmp 5) (Operand.const (Value.int IntKind.i64 0))),
        SOper.mk (some 2) none (SOp.mv (Operand.tmp 6))]
      [2])
    Stmt.ret)
def S88 : FnS := ⟨7, [(2, none)], S88_0⟩
theorem tr88 : trFn Try.prog 88 [] [[0], [2]] = some S88 := by kernel_rfl
end Go.Proofs.Ytniobbepliknmaa.V
/- The text of parlance/parllaw5.LearnRefuses$4 as a statement (slots: 0 d, 2 d); no condition. -/
namespace Go.Proofs.Ytniobbepliknmaa.V
open Go
def S89_0 : Stmt :=
  Stmt.seq
  (Stmt.region
    [SOper.mk (some 2) none (SOp.box true 67 (Operand.tmp 0)),
      SOper.mk (some 3) none (SOp.mv (Operand.const (Value.bool false))),
      SOper.mk (some 4) none (SOp.mv (Operand.const (Value.slice none 0 0)))]
    [1])
  (Stmt.seq
    (Stmt.quiet
      [SOper.mk (some 5) none (SOp.load false 1 (Operand.tmp 1)),
        SOper.mk (some 3) none (SOp.mv (Operand.const (Value.bool false))),
        SOper.mk (some 4) none (SOp.mv (Operand.tmp 5))]
      [3, 4])
    Stmt.ret)
def S89 : FnS := ⟨6, [(3, none), (4, none)], S89_0⟩
theorem tr89 : trFn Try.prog 89 [2] [[1], [3, 4]] = some S89 := by kernel_rfl
end Go.Proofs.Ytniobbepliknmaa.V
/- The law of parllaw5.LearnRefuses: it answers true; no condition. -/
namespace Go.Proofs.Ytniobbepliknmaa.V
open Go
set_option linter.unusedVariables false
set_option linter.unusedSimpArgs false
attribute [local go_sem] e_seq e_region e_quiet e_join e_loop e_cond e_block e_exit e_ret e_skip e_fin e_kseq e_snrm e_sret e_sex e_bnrm e_bret e_bex e_rnrm e_rret e_res e_condC e_nil e_g e_mv g_mv e_pick g_pick pickC_eq e_ibin g_ibin ibinC_eq e_sbin g_sbin e_beq g_beq beqC_eq e_nilq g_nilq nilqC_sl nilqC_pt nilqC_mp e_un g_un unC_not unC_neg e_conv g_conv convC_eq e_fld g_fld fldC_ref fldC_ptr e_nilCheck g_nilCheck nilCheckC_ref nilCheckC_ptr nilCheckC_fun e_field g_field fieldC_eq e_len g_len lenC_sl lenC_str e_extract g_extract extractC_eq e_mkFunc e_build g_build e_idiv g_idiv idivC_eq e_ishift g_ishift ishiftC_eq e_idx g_idx e_idxA g_idxA e_load g_load e_loadB g_loadB atB_ref atB_v g_mkFunc loadC_ref loadC_ptr loadB_eq e_slc g_slc e_box boxC_loc boxC_esc e_alloc allocC_loc allocC_esc e_buildS e_store storeC_ref storeC_ptr storeB_eq e_append e_appz e_mk mkC_eq e_call callC_eq e_fn g_fn fnC_eq fnV_min' fnV_max' fnV_rune' e_q g_q e_a e_n g_call g_box g_alloc g_buildS g_store g_append g_mk g_a g_n g_dead e_dead e_callK e_drawn e_tree e_finJ e_tk e_tfin e_tno e_nbt_q e_nbt_qn e_nbt_a e_nbt_an e_nbt_fin e_drawnB e_bxb_nil e_bxb e_stB_none e_stB_some boxSt_store bs_mv bs_pick bs_ibin bs_idiv bs_ishift bs_sbin bs_beq bs_nilq bs_un bs_conv bs_box bs_alloc bs_build bs_buildS bs_load bs_fld bs_nilCheck bs_idx bs_idxA bs_field bs_slc bs_len bs_append bs_appz bs_mk bs_call bs_extract bs_mkFunc bs_fn bs_q bs_a bs_n bs_loadB bs_dead isBox_box e_early_nil e_early_t e_early_f e_nob_nil e_nob_none e_nob_some isBox_dead isBox_v isBox_ref e_dnil e_dk e_ek e_finB vcOps_vc1 e_dcons e_tq e_ekt e_tearly e_talt e_dearly look_nil look_c proj_nil proj_c looks_nil looks_c zip_nil zip_c val_tmp val_const val_func slv_v slv_box slv_ref slot_tmp slot_const slot_func slotL_v slotL_box slotL_ref put_some put_none updBox_c boxSet_box gd_eq slotVals_nil slotVals_c slotVals_b boxV_box boxOn_box slotsOn_nil slotsOn_c slotsOn_b resV_one resV_two vals_nil vals_c allOn_nil allOn_c partOn_nil partOn_c partVals_nil partVals_c fits_nil fits_c fillL_nil fillL_c mkv_one mkv_agg cellsV_agg cellsV_int cellsV_bool cellsV_slice cellsV_string cellsV_pointer cellsV_func cellsV_nilf cellsV_map one'_nil one'_c oc_int oc_bool oc_slice oc_string oc_pointer oc_func oc_nilf oc_map setC_eq iv_add iv_sub iv_mul iv_eql iv_neq iv_lss iv_leq iv_gtr iv_geq iok_add iok_sub iok_mul iok_eql iok_neq iok_lss iok_leq iok_gtr iok_geq pickV_bool args0_nil args0_c bnd_none bnd_some imp_bt imp_bf imp_ebt imp_ebf imp_eb1 imp_np imp_pp beq_tt beq_tf beq_ft beq_ff cond_or cond_and e_round e_meet Int.le_refl Int.toNat_zero decide_true decide_false Bool.or_false Bool.false_or Bool.true_or Bool.or_true Bool.and_false Bool.false_and Bool.bne_false Bool.bne_true beq_iff_eq Int.cast_ofNat_Int not_false_eq_true not_true_eq_false false_and and_false false_implies true_implies true_and and_true Bool.true_and Bool.and_true Bool.not_true Bool.not_false forall_const implies_true List.take_zero List.drop_zero List.take_succ_cons List.drop_succ_cons List.take_nil List.drop_nil List.length_cons List.length_nil List.nil_append List.append_nil List.cons_append Int.toNat_natCast decide_eq_true_eq decide_eq_false_iff_not cond_true cond_false and_self List.getElem?_cons_zero List.getElem?_cons_succ List.set_cons_zero List.set_cons_succ Option.some.injEq exists_eq_left' Nat.zero_add Nat.add_zero Nat.mul_one imp_self true_or or_true or_false false_or Bool.or_eq_true Bool.or_eq_false_iff Bool.and_eq_true Bool.and_eq_false_iff Bool.not_eq_true' Bool.not_eq_false'

theorem lr_all (Γr : Ctx) (k : Nat) : MemOk Γr (.func (.func 86) #[] #[]) k (fun _ => true) := by
  refine ⟨86, _, _, rfl, fun Γ w W c _ hw _ _ => ?_⟩
  generalize hR : (fun (v : Value) (Γ : Ctx) => Γ = [] ∧ _) = R
  refine ret_of_vc tr86 (Nat.le_of_ble_eq_true rfl) ?_
  simp -implicitDefEqProofs only [S86, S86_0, go_sem, Nat.reduceBEq, Nat.reduceAdd, Nat.reduceSub, Nat.reduceMul, Nat.reduceLeDiff, reduceCtorEq, ↓reduceIte, Int.reduceLT, Int.reduceLE, Int.reduceEq, Int.reduceNe]
  refine Up.here ?_
  subst hR
  exact ⟨rfl, rfl⟩
def evenL (w : List Int) : Bool := decide (w.length % 2 = 0)
theorem lr_even (Γr : Ctx) (k : Nat) : MemOk Γr (.func (.func 88) #[] #[]) k evenL := by
  refine ⟨88, _, _, rfl, fun Γ w W c _ hw _ _ => ?_⟩
  generalize hR : (fun (v : Value) (Γ : Ctx) => Γ = [] ∧ _) = R
  refine ret_of_vc tr88 (Nat.le_of_ble_eq_true rfl) ?_
  simp -implicitDefEqProofs only [S88, S88_0, go_sem, Nat.reduceBEq, Nat.reduceAdd, Nat.reduceSub, Nat.reduceMul, Nat.reduceLeDiff, reduceCtorEq, ↓reduceIte, Int.reduceLT, Int.reduceLE, Int.reduceEq, Int.reduceNe]
  simp -implicitDefEqProofs only [idivV, go_sem, Nat.reduceBEq, Nat.reduceAdd, Nat.reduceSub, Nat.reduceMul, Nat.reduceLeDiff, reduceCtorEq, ↓reduceIte, Int.reduceLT, Int.reduceLE, Int.reduceEq, Int.reduceNe]
  refine Up.here ?_
  subst hR
  refine ⟨rfl, ?_⟩
  unfold evenL
  congr 1
  have : ((w.length : Int).tmod 2 = 0) ↔ (w.length % 2 = 0) := by
    rw [Int.tmod_eq_emod_of_nonneg (by omega)]; omega
  simp [this]
theorem lr_zero (Γr : Ctx) (k N : Nat) : EqOk Γr (.func (.func 87) #[] #[]) k N (fun _ b w => b = false ∧ w = [0]) := by
  refine ⟨87, _, _, rfl, fun Γ d A B c e _ hA hB _ _ _ _ => ?_⟩
  generalize hR : (fun (v : Value) (Γ' : Ctx) => ∃ g b w W c, _) = R
  refine ret_of_vc tr87 (Nat.le_of_ble_eq_true rfl) ?_
  simp -implicitDefEqProofs only [S87, S87_0, go_sem, Nat.reduceBEq, Nat.reduceAdd, Nat.reduceSub, Nat.reduceMul, Nat.reduceLeDiff, reduceCtorEq, ↓reduceIte, Int.reduceLT, Int.reduceLE, Int.reduceEq, Int.reduceNe]
  intro b2
  refine Up.here ?_
  subst hR
  refine ⟨_, false, [0], some ⟨b2, 0, none⟩, 1, rfl, rfl, ?_, by simp, rfl, rfl⟩
  exact lit_rep1 (T := 3) (cs := [.int .i64 0]) (0 : Int) ⟨_, by simp, one_self _ _⟩ rfl
theorem lr_word {Γr : Ctx} {p : Nat} {W : Option Addr} {cw : Nat} {w : List Int} {T : TypeId} (hp : lk Γr p (.cells [.slice W w.length cw].toArray T (0, 0))) (hw : SlOk (lk Γr) W cw w) (hl : w.length ≤ 1048576) (k N : Nat) : EqOk Γr (.func (.func 89) #[] #[.pointer (some ⟨p, 0, none⟩)]) k N (fun _ b w' => b = false ∧ w' = w) := by
  refine ⟨89, _, _, rfl, fun Γ d A B c e hle hA hB _ _ _ _ => ?_⟩
  generalize hR : (fun (v : Value) (Γ' : Ctx) => ∃ g b w W c, _) = R
  refine ret_of_vc tr89 (Nat.le_of_ble_eq_true rfl) ?_
  simp -implicitDefEqProofs only [S89, S89_0, go_sem, Nat.reduceBEq, Nat.reduceAdd, Nat.reduceSub, Nat.reduceMul, Nat.reduceLeDiff, reduceCtorEq, ↓reduceIte, Int.reduceLT, Int.reduceLE, Int.reduceEq, Int.reduceNe]
  refine s_ld0 (cells_lk (by simpa using hle _ _ hp)) (by simp) (by simp) ?_
  simp -implicitDefEqProofs only [go_sem, Nat.reduceBEq, Nat.reduceAdd, Nat.reduceSub, Nat.reduceMul, Nat.reduceLeDiff, reduceCtorEq, ↓reduceIte, Int.reduceLT, Int.reduceLE, Int.reduceEq, Int.reduceNe]
  refine Up.emp (Up.here ?_)
  subst hR
  exact ⟨_, false, w, W, cw, rfl, rfl, hw.mono (Mem.le.trans hle (lk_sub fun g hg => by simp [hg])), by omega, rfl, rfl⟩
theorem cls_all (k : Nat) : ClsL (fun _ => true) k 1 := ⟨fun _ => 0, fun _ _ => Nat.zero_lt_one, fun _ _ _ _ _ _ _ => rfl⟩
theorem cls_even (k : Nat) : ClsL evenL k 2 := ⟨fun w => w.length % 2, fun w _ => Nat.mod_lt _ (by omega), fun u v _ _ h e _ => by
  have h : u.length % 2 = v.length % 2 := h
  unfold evenL
  congr 1
  simp only [List.length_append, eq_iff_iff]
  omega⟩
theorem law_refuses {Γr : Ctx} {n : Int} (hn : -9223372036854775808 ≤ n ∧ n ≤ 9223372036854775807) {w : List Int} {W : Option Addr} {cw : Nat} (hw : SlOk (lk Γr) W cw w) (hl : w.length ≤ 1048576) :
    Ret Try.prog 16 [.int .i64 n, .slice W w.length cw] Γr [] (fun v Γ => Γ = [] ∧ v = .bool true) := by
  generalize hR : (fun (v : Value) (Γ : Ctx) => Γ = [] ∧ v = Value.bool true) = R
  refine ret_of_vc tr16 (Nat.le_of_ble_eq_true rfl) ?_
  simp -implicitDefEqProofs only [S16, S16_0, go_sem, Nat.reduceBEq, Nat.reduceAdd, Nat.reduceSub, Nat.reduceMul, Nat.reduceLeDiff, reduceCtorEq, ↓reduceIte, Int.reduceLT, Int.reduceLE, Int.reduceEq, Int.reduceNe]
  intro p
  have hp : (one p (.cells [.slice W w.length cw].toArray 29)) p = some (.cells [.slice W w.length cw].toArray 29 (0, 0)) := one_self _ _
  revert hp
  generalize hg0 : one p _ = g0
  clear hg0
  intro hp
  refine CallVC.read (learn_of (k := 2) (N := 1) (by omega) (lr_all _ 2) (lr_zero _ 2 1) (cls_all 2) (by omega)) ?_
  rintro v Γ' ⟨g1, r, e, A1, B1, c1, d1, rfl, rfl, hS1, hS2, hO⟩
  have hO : r = zeroD ∧ e = 7 := by
    rcases hO with ⟨_, _, w', h, _⟩ | ⟨h, m, w', _, ⟨_, rfl⟩, q⟩
    · cases h
    · refine ⟨h, ?_⟩
      rcases q with ⟨_, q⟩ | ⟨_, _, q⟩ | ⟨q, _⟩
      · simp at q
      · exact absurd (by simp [okK]) q
      · exact q
  obtain ⟨rfl, rfl⟩ := hO
  simp -implicitDefEqProofs only [zeroD, go_sem, Nat.reduceBEq, Nat.reduceAdd, Nat.reduceSub, Nat.reduceMul, Nat.reduceLeDiff, reduceCtorEq, ↓reduceIte, Int.reduceLT, Int.reduceLE, Int.reduceEq, Int.reduceNe]
  intro b5
  have hr1 : -16 < n.tmod 16 ∧ n.tmod 16 < 16 := by
    have h1 := Int.tmod_lt_of_pos n (b := 16) (by omega)
    have h2 := Int.lt_tmod_of_pos n (b := 16) (by omega)
    omega
  obtain ⟨k, hk, hkk⟩ : ∃ k : Nat, (n.tmod 16 + 16).tmod 16 + 1 = (k : Int) ∧ 1 ≤ k ∧ k ≤ 16 := by
    have h1 := Int.tmod_lt_of_pos (n.tmod 16 + 16) (b := 16) (by omega)
    have h2 := Int.tmod_nonneg (b := 16) (a := n.tmod 16 + 16) (by omega)
    exact ⟨((n.tmod 16 + 16).tmod 16 + 1).toNat, by omega, by omega, by omega⟩
  simp -implicitDefEqProofs only [idivV, go_sem, Nat.reduceBEq, Nat.reduceAdd, Nat.reduceSub, Nat.reduceMul, Nat.reduceLeDiff, reduceCtorEq, ↓reduceIte, Int.reduceLT, Int.reduceLE, Int.reduceEq, Int.reduceNe]
  rw [wrap_id (x := n.tmod 16 + 16) (by omega) (by omega), wrap_id (x := (n.tmod 16 + 16).tmod 16 + 1) (by omega) (by omega), hk]
  refine CallVC.read (learn_of (k := k) (N := 2) hkk (lr_even _ k) (lr_word (p := p) ⟨g0, by simp, hp⟩ (hw.mono (lk_r _ _)) hl k 2) (cls_even k) (by omega)) ?_
  rintro v Γ' ⟨g2, r, e, A3, B3, c3, d3, rfl, rfl, hS3, hS4, hO⟩
  have hO : r = zeroD ∧ ((e = 2 ∧ 2000 < w.length) ∨ (e = 1 ∧ w.length ≤ 2000 ∧ ¬ okK k w) ∨ (e = 7 ∧ w.length ≤ 2000 ∧ okK k w)) := by
    rcases hO with ⟨_, _, w', h, _⟩ | ⟨h, m, w', _, ⟨_, rfl⟩, q⟩
    · cases h
    · refine ⟨h, ?_⟩
      rcases q with q | q | ⟨q1, q2, q3, _⟩
      · exact .inl q
      · exact .inr (.inl q)
      · exact .inr (.inr ⟨q1, q2, q3⟩)
  obtain ⟨hr, hQ⟩ := hO
  subst hr
  simp -implicitDefEqProofs only [zeroD, go_sem, Nat.reduceBEq, Nat.reduceAdd, Nat.reduceSub, Nat.reduceMul, Nat.reduceLeDiff, reduceCtorEq, ↓reduceIte, Int.reduceLT, Int.reduceLE, Int.reduceEq, Int.reduceNe]
  refine s_ld0 (cells_lk ⟨g0, by simp, hp⟩) (by simp) (by simp) ?_
  simp -implicitDefEqProofs only [go_sem, Nat.reduceBEq, Nat.reduceAdd, Nat.reduceSub, Nat.reduceMul, Nat.reduceLeDiff, reduceCtorEq, ↓reduceIte, Int.reduceLT, Int.reduceLE, Int.reduceEq, Int.reduceNe]
  refine ⟨fun hlong => ?_, fun hshort => ?_⟩
  · have he : e = 2 := by rcases hQ with ⟨h, _⟩ | ⟨_, h, _⟩ | ⟨_, h, _⟩ <;> omega
    subst he
    simp -implicitDefEqProofs only [go_sem, Nat.reduceBEq, Nat.reduceAdd, Nat.reduceSub, Nat.reduceMul, Nat.reduceLeDiff, reduceCtorEq, ↓reduceIte, Int.reduceLT, Int.reduceLE, Int.reduceEq, Int.reduceNe]
    refine Up.to [] (Ent.nil _) ?_
    subst hR
    exact ⟨rfl, rfl⟩
  · refine s_ld0 (cells_lk ⟨g0, by simp, hp⟩) (by simp) (by simp) ?_
    simp -implicitDefEqProofs only [go_sem, Nat.reduceBEq, Nat.reduceAdd, Nat.reduceSub, Nat.reduceMul, Nat.reduceLeDiff, reduceCtorEq, ↓reduceIte, Int.reduceLT, Int.reduceLE, Int.reduceEq, Int.reduceNe]
    refine s_loop (fun f vs Γ => ∃ i : Nat, vs = [.v true (.int .i64 i)] ∧ i + f = w.length ∧ Γ = [g2, g1, g0] ∧ okK k (w.take i)) w.length
      (Up.here ⟨0, rfl, by omega, rfl, by simp [okK]⟩) ?_
    rintro f vs Γ ⟨i, rfl, hif, rfl, hok⟩
    simp -implicitDefEqProofs only [S16_1, go_sem, Nat.reduceBEq, Nat.reduceAdd, Nat.reduceSub, Nat.reduceMul, Nat.reduceLeDiff, reduceCtorEq, ↓reduceIte, Int.reduceLT, Int.reduceLE, Int.reduceEq, Int.reduceNe]
    refine ⟨fun hlt => ?_, fun hge => ?_⟩
    · have hi : i < w.length := by omega
      obtain ⟨x, hx⟩ : ∃ x, x = w[i] := ⟨_, rfl⟩
      obtain ⟨b6, o6, hA6, hc6⟩ := hw.int hi
      rw [← hx] at hc6
      refine s_idx hA6 (by omega) (by omega) ?_
      simp -implicitDefEqProofs only [go_sem, Nat.reduceBEq, Nat.reduceAdd, Nat.reduceSub, Nat.reduceMul, Nat.reduceLeDiff, reduceCtorEq, ↓reduceIte, Int.reduceLT, Int.reduceLE, Int.reduceEq, Int.reduceNe]
      refine s_ld0 (hc6 _ (lk_r _ _)) (by simp) (by simp) ?_
      simp -implicitDefEqProofs only [go_sem, Nat.reduceBEq, Nat.reduceAdd, Nat.reduceSub, Nat.reduceMul, Nat.reduceLeDiff, reduceCtorEq, ↓reduceIte, Int.reduceLT, Int.reduceLE, Int.reduceEq, Int.reduceNe]
      refine ⟨fun h => ?_, fun h => ?_⟩
      · have he : e = 1 := by
          rcases hQ with ⟨h1, h2⟩ | ⟨h1, _⟩ | ⟨_, _, h2⟩
          · omega
          · exact h1
          · have := h2 x (hx ▸ List.getElem_mem hi)
            omega
        subst he
        simp -implicitDefEqProofs only [go_sem, Nat.reduceBEq, Nat.reduceAdd, Nat.reduceSub, Nat.reduceMul, Nat.reduceLeDiff, reduceCtorEq, ↓reduceIte, Int.reduceLT, Int.reduceLE, Int.reduceEq, Int.reduceNe]
        refine Up.to [] (Ent.nil _) ?_
        subst hR
        exact ⟨rfl, rfl⟩
      · simp (disch := omega) only [wrap_id]
        refine ⟨f - 1, by omega, Up.here ⟨i + 1, rfl, by omega, rfl, ?_⟩⟩
        rw [List.take_succ_eq_append_getElem hi, ← hx]
        exact okK_app.2 ⟨hok, fun y hy => by simp at hy; subst hy; omega⟩
    · have hi : i = w.length := by omega
      rw [hi, List.take_length] at hok
      have he : e = 7 := by
        rcases hQ with ⟨h1, h2⟩ | ⟨_, _, h1⟩ | ⟨h1, _⟩
        · omega
        · exact absurd hok h1
        · exact h1
      subst he
      simp -implicitDefEqProofs only [go_sem, Nat.reduceBEq, Nat.reduceAdd, Nat.reduceSub, Nat.reduceMul, Nat.reduceLeDiff, reduceCtorEq, ↓reduceIte, Int.reduceLT, Int.reduceLE, Int.reduceEq, Int.reduceNe]
      refine Up.to [] (Ent.nil _) ?_
      subst hR
      exact ⟨rfl, rfl⟩
end Go.Proofs.Ytniobbepliknmaa.V
