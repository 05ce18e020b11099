/- Texts put together, in the order in which they build; each says what it proves; no condition. -/
import Derived.Test.YtniobbepliknmaaM5
import Derived.Test.YtniobbepliknmaaM2
import Derived.Test.YtniobbepliknmaaProg
import Derived.Test.YtniobbepliknmaaM4
/- parllaw5.plain and slices.Equal of bools walked; no condition. -/
namespace Go.Proofs.Ytniobbepliknmaa.V
open Go
set_option linter.unusedVariables false
set_option linter.unusedSimpArgs false
attribute [local go_sem] e_seq e_region e_quiet e_join e_loop e_cond e_block e_exit e_ret e_skip e_fin e_kseq e_snrm e_sret e_sex e_bnrm e_bret e_bex e_rnrm e_rret e_res e_condC e_nil e_g e_mv g_mv e_pick g_pick pickC_eq e_ibin g_ibin ibinC_eq e_sbin g_sbin e_beq g_beq beqC_eq e_nilq g_nilq nilqC_sl nilqC_pt nilqC_mp e_un g_un unC_not unC_neg e_conv g_conv convC_eq e_fld g_fld fldC_ref fldC_ptr e_nilCheck g_nilCheck nilCheckC_ref nilCheckC_ptr nilCheckC_fun e_field g_field fieldC_eq e_len g_len lenC_sl lenC_str e_extract g_extract extractC_eq e_mkFunc e_build g_build e_idiv g_idiv idivC_eq e_ishift g_ishift ishiftC_eq e_idx g_idx e_idxA g_idxA e_load g_load loadC_ref loadC_ptr loadB_eq e_slc g_slc e_box boxC_loc boxC_esc e_alloc allocC_loc allocC_esc e_buildS e_store storeC_ref storeC_ptr storeB_eq e_append e_appz e_mk mkC_eq e_call callC_eq e_fn g_fn fnC_eq fnV_min' fnV_max' fnV_rune' e_q g_q e_a e_n g_call g_box g_alloc g_buildS g_store g_append g_mk g_a g_n g_dead e_dead e_callK e_drawn e_tree e_finJ e_tk e_tfin e_tno e_nbt_q e_nbt_qn e_nbt_a e_nbt_an e_nbt_fin e_early_nil e_early_t e_early_f e_nob_nil e_nob_none e_nob_some isBox_dead isBox_v isBox_ref e_dnil e_dk e_ek e_finB vcOps_vc1 e_dcons e_tq e_ekt e_tearly e_talt e_dearly look_nil look_c proj_nil proj_c looks_nil looks_c zip_nil zip_c val_tmp val_const val_func slv_v slv_box slv_ref slot_tmp slot_const slot_func slotL_v slotL_box slotL_ref put_some put_none updBox_c boxSet_box gd_eq slotVals_nil slotVals_c slotVals_b boxV_box boxOn_box slotsOn_nil slotsOn_c slotsOn_b resV_one resV_two vals_nil vals_c allOn_nil allOn_c partOn_nil partOn_c partVals_nil partVals_c fits_nil fits_c fillL_nil fillL_c mkv_one mkv_agg cellsV_agg cellsV_int cellsV_bool cellsV_slice cellsV_string cellsV_pointer cellsV_func cellsV_nilf cellsV_map one'_nil one'_c oc_int oc_bool oc_slice oc_string oc_pointer oc_func oc_nilf oc_map setC_eq iv_add iv_sub iv_mul iv_eql iv_neq iv_lss iv_leq iv_gtr iv_geq iok_add iok_sub iok_mul iok_eql iok_neq iok_lss iok_leq iok_gtr iok_geq pickV_bool args0_nil args0_c bnd_none bnd_some imp_bt imp_bf imp_ebt imp_ebf imp_eb1 imp_np imp_pp beq_tt beq_tf beq_ft beq_ff cond_or cond_and e_round e_meet Int.le_refl Int.toNat_zero decide_true decide_false Bool.or_false Bool.false_or Bool.true_or Bool.or_true Bool.and_false Bool.false_and Bool.bne_false Bool.bne_true beq_iff_eq Int.cast_ofNat_Int not_false_eq_true not_true_eq_false false_and and_false false_implies true_implies true_and and_true Bool.true_and Bool.and_true Bool.not_true Bool.not_false forall_const implies_true List.take_zero List.drop_zero List.take_succ_cons List.drop_succ_cons List.take_nil List.drop_nil List.length_cons List.length_nil List.nil_append List.append_nil List.cons_append Int.toNat_natCast decide_eq_true_eq decide_eq_false_iff_not cond_true cond_false and_self List.getElem?_cons_zero List.getElem?_cons_succ List.set_cons_zero List.set_cons_succ Option.some.injEq exists_eq_left' Nat.zero_add Nat.add_zero Nat.mul_one imp_self true_or or_true or_false false_or Bool.or_eq_true Bool.or_eq_false_iff Bool.and_eq_true Bool.and_eq_false_iff Bool.not_eq_true' Bool.not_eq_false'

theorem equal_bools {Γr : Ctx} {A B : Option Addr} {c d : Nat} {xs ys : List Bool} (hx : SlOk (lk Γr) A c xs) (hy : SlOk (lk Γr) B d ys) :
    Ret Try.prog 41 [.slice A xs.length c, .slice B ys.length d] Γr [] (fun v Γ => Γ = [] ∧ v = .bool (decide (xs = ys))) := by
  generalize hR : (fun v Γ => Γ = [] ∧ v = _) = R
  refine ret_of_vc tr41 (Nat.le_of_ble_eq_true rfl) ?_
  have h1 := hx.short
  have h2 := hy.short
  simp -implicitDefEqProofs only [S41, S41_0, go_sem, Nat.reduceBEq, Nat.reduceAdd, Nat.reduceSub, Nat.reduceMul, Nat.reduceLeDiff, reduceCtorEq, ↓reduceIte, Int.reduceLT, Int.reduceLE, Int.reduceEq, Int.reduceNe]
  refine ⟨fun hne => Up.here ?_, fun heq => ?_⟩
  · subst hR
    refine ⟨rfl, ?_⟩
    have : xs ≠ ys := fun e => by subst e; exact hne rfl
    simp [this]
  have hl : xs.length = ys.length := by omega
  refine s_loop (fun f vs Γ => Γ = [] ∧ ∃ k : Nat, vs = [.v true (.int .i64 k)] ∧ k + f = xs.length ∧ xs.take k = ys.take k) xs.length (Up.here ⟨rfl, 0, rfl, by omega, by simp⟩) ?_
  rintro f vs Γ ⟨rfl, k, rfl, hkf, htk⟩
  simp -implicitDefEqProofs only [S41_1, go_sem, Nat.reduceBEq, Nat.reduceAdd, Nat.reduceSub, Nat.reduceMul, Nat.reduceLeDiff, reduceCtorEq, ↓reduceIte, Int.reduceLT, Int.reduceLE, Int.reduceEq, Int.reduceNe]
  refine ⟨fun hlt => ?_, fun hge => ?_⟩
  · have hk : k < xs.length := by omega
    have hk' : k < ys.length := by omega
    obtain ⟨b, o, hA, hc1⟩ := hx.bool hk
    obtain ⟨b', o', hB, hc2⟩ := hy.bool hk'
    refine s_idx hA (by omega) (by omega) ?_
    simp -implicitDefEqProofs only [go_sem, Nat.reduceBEq, Nat.reduceAdd, Nat.reduceSub, Nat.reduceMul, Nat.reduceLeDiff, reduceCtorEq, ↓reduceIte, Int.reduceLT, Int.reduceLE, Int.reduceEq, Int.reduceNe]
    refine s_ld0 (hc1 _ (Mem.le.refl _)) (by simp) (by simp) ?_
    simp -implicitDefEqProofs only [go_sem, Nat.reduceBEq, Nat.reduceAdd, Nat.reduceSub, Nat.reduceMul, Nat.reduceLeDiff, reduceCtorEq, ↓reduceIte, Int.reduceLT, Int.reduceLE, Int.reduceEq, Int.reduceNe]
    refine s_idx hB (by omega) (by omega) ?_
    simp -implicitDefEqProofs only [go_sem, Nat.reduceBEq, Nat.reduceAdd, Nat.reduceSub, Nat.reduceMul, Nat.reduceLeDiff, reduceCtorEq, ↓reduceIte, Int.reduceLT, Int.reduceLE, Int.reduceEq, Int.reduceNe]
    refine s_ld0 (hc2 _ (Mem.le.refl _)) (by simp) (by simp) ?_
    simp -implicitDefEqProofs only [go_sem, Nat.reduceBEq, Nat.reduceAdd, Nat.reduceSub, Nat.reduceMul, Nat.reduceLeDiff, reduceCtorEq, ↓reduceIte, Int.reduceLT, Int.reduceLE, Int.reduceEq, Int.reduceNe]
    refine ⟨fun hne => Up.here ?_, fun heq => ?_⟩
    · subst hR
      refine ⟨rfl, ?_⟩
      have : xs ≠ ys := fun e => by subst e; simp at hne
      simp [this]
    · simp (disch := omega) only [wrap_id]
      exact ⟨f - 1, by omega, Up.here ⟨rfl, k + 1, rfl, by omega, take_eq_succ hk hk' htk heq⟩⟩
  · have hk : k = xs.length := by omega
    refine Up.here ?_
    subst hR
    refine ⟨rfl, ?_⟩
    have : xs = ys := by
      rw [hk, List.take_length, hl, List.take_length] at htk
      exact htk
    simp [this]
def plainG : Gr := ⟨2, 1, 0, [⟨0, [⟨true, 0⟩]⟩, ⟨0, [⟨true, 1⟩, ⟨false, 0⟩]⟩]⟩
theorem plain_ {Γr : Ctx} : Ret Try.prog 40 [] Γr [] (fun v Γ => ∃ g A c, Γ = [g] ∧ SlOk (lk [g]) A c plainG.rs ∧ v = .agg #[.int .i64 2, .int .i64 1, .int .i64 0, .slice A 2 c]) := by
  generalize hR : (fun (v : Value) (Γ : Ctx) => ∃ g A c, _) = R
  refine ret_of_vc tr40 (Nat.le_of_ble_eq_true rfl) ?_
  simp -implicitDefEqProofs only [S40, S40_0, go_sem, Nat.reduceBEq, Nat.reduceAdd, Nat.reduceSub, Nat.reduceMul, Nat.reduceLeDiff, reduceCtorEq, ↓reduceIte, Int.reduceLT, Int.reduceLE, Int.reduceEq, Int.reduceNe]
  intro b b1 b2
  refine Up.one fun g hg => ?_
  subst hR
  refine ⟨g, _, 2, rfl, ?_, rfl⟩
  refine lit_rep2 (cs := [.int .i64 0, .slice (some ⟨b, 0, none⟩) 1 1]) (ds := [.int .i64 0, .slice (some ⟨b1, 0, none⟩) 2 2]) _ _ (hg _ _ lk_head) rfl ⟨_, _, rfl, ?_⟩ ⟨_, _, rfl, ?_⟩
  · exact lit_rep1 (cs := [.bool true, .int .i64 0]) (⟨true, 0⟩ : Sy) (hg _ _ (lk_tail (lk_tail lk_head))) rfl
  · exact lit_rep2 (cs := [.bool true, .int .i64 1]) (ds := [.bool false, .int .i64 0]) (⟨true, 1⟩ : Sy) (⟨false, 0⟩ : Sy) (hg _ _ (lk_tail lk_head)) rfl rfl rfl
end Go.Proofs.Ytniobbepliknmaa.V
/- The text of parlance/parlref5.RuleFault as a statement (slots: 0 g, 1 g, 3 seen, 4 _, 5 r, 6 key, 7 _, 8 s, 9 most); no condition. -/
namespace Go.Proofs.Ytniobbepliknmaa.V
open Go
def S42_1 : Stmt :=
  Stmt.seq
  (Stmt.region
    [SOper.mk (some 79) none (SOp.fld 0 (Operand.tmp 8)), SOper.mk (some 80) none (SOp.load false 1 (Operand.tmp 79))]
    [1, 3, 6, 8, 9, 46, 47, 48, 71, 72, 73, 80])
  (Stmt.cond (Operand.tmp 80)
    (Stmt.seq
      (Stmt.region
        [SOper.mk (some 81) none (SOp.fld 0 (Operand.tmp 1)),
          SOper.mk (some 82) none (SOp.load false 1 (Operand.tmp 81)), SOper.mk (some 9) none (SOp.mv (Operand.tmp 82))]
        [1, 3, 6, 8, 9, 46, 47, 48, 71, 72, 73])
      (Stmt.region
        [SOper.mk (some 83) none (SOp.mv (Operand.tmp 6)),
          SOper.mk (some 84) none
            (SOp.fn Fk.cat [Operand.tmp 83, Operand.const (Value.string (ByteArray.mk (Array.mk [UInt8.ofNat 116])))]),
          SOper.mk (some 6) none (SOp.mv (Operand.tmp 84))]
        [1, 3, 6, 8, 9, 46, 47, 48, 71, 72, 73]))
    (Stmt.region
      [SOper.mk (some 85) none (SOp.mv (Operand.tmp 6)),
        SOper.mk (some 86) none
          (SOp.fn Fk.cat [Operand.tmp 85, Operand.const (Value.string (ByteArray.mk (Array.mk [UInt8.ofNat 110])))]),
        SOper.mk (some 6) none (SOp.mv (Operand.tmp 86))]
      [1, 3, 6, 8, 9, 46, 47, 48, 71, 72, 73]))
def S42_2 : Stmt :=
  Stmt.seq
  (Stmt.seq
    (Stmt.region
      [SOper.mk (some 87) none (SOp.fld 1 (Operand.tmp 8)), SOper.mk (some 88) none (SOp.load false 1 (Operand.tmp 87)),
        SOper.mk (some 89) none (SOp.ibin BinOp.lss (Operand.tmp 88) (Operand.const (Value.int IntKind.i64 0))),
        SOper.mk (some 90) none (SOp.mv (Operand.tmp 89)),
        SOper.mk (some 91) (some (90, false)) (SOp.fld 1 (Operand.tmp 8)),
        SOper.mk (some 92) (some (90, false)) (SOp.load false 1 (Operand.tmp 91)),
        SOper.mk (some 93) (some (90, false)) (SOp.mv (Operand.tmp 9)),
        SOper.mk (some 94) (some (90, false)) (SOp.ibin BinOp.geq (Operand.tmp 92) (Operand.tmp 93)),
        SOper.mk (some 95) none (SOp.pick (Operand.tmp 90) (Operand.const (Value.bool true)) (Operand.tmp 94))]
      [1, 3, 6, 8, 46, 47, 48, 71, 72, 73, 95])
    (Stmt.cond (Operand.tmp 95)
      (Stmt.seq (Stmt.region [SOper.mk (some 2) none (SOp.mv (Operand.const (Value.int IntKind.i64 3)))] [2]) Stmt.ret)
      Stmt.skip))
  (Stmt.region
    [SOper.mk (some 96) none (SOp.mv (Operand.tmp 6)), SOper.mk (some 97) none (SOp.fld 1 (Operand.tmp 8)),
      SOper.mk (some 98) none (SOp.load false 1 (Operand.tmp 97)),
      SOper.mk (some 99) none (SOp.conv IntKind.i32 (Operand.tmp 98)),
      SOper.mk (some 100) none (SOp.fn Fk.rune [Operand.tmp 99]),
      SOper.mk (some 101) none (SOp.fn Fk.cat [Operand.tmp 96, Operand.tmp 100]),
      SOper.mk (some 6) none (SOp.mv (Operand.tmp 101))]
    [1, 3, 6, 46, 47, 48, 71, 72, 73])
def S42_3 : Stmt :=
  Stmt.block 3
  (Stmt.seq
    (Stmt.region
      [SOper.mk (some 75) none (SOp.idx 2 (Operand.tmp 71) (Operand.tmp 73)),
        SOper.mk (some 76) none (SOp.load true 2 (Operand.tmp 75)),
        SOper.mk (some 8) none (SOp.alloc true 39 (Value.agg (Array.mk [Value.bool false, Value.int IntKind.i64 0]))),
        SOper.mk none none (SOp.store 2 (Operand.tmp 8) (Operand.tmp 76))]
      [1, 3, 6, 8, 46, 47, 48, 71, 72, 73])
    (Stmt.seq
      (Stmt.region
        [SOper.mk (some 77) none (SOp.fld 1 (Operand.tmp 1)),
          SOper.mk (some 78) none (SOp.load false 1 (Operand.tmp 77)), SOper.mk (some 9) none (SOp.mv (Operand.tmp 78))]
        [1, 3, 6, 8, 9, 46, 47, 48, 71, 72, 73])
      (Stmt.join S42_1 S42_2 [6, 9] [1, 3, 8, 46, 47, 48, 71, 72, 73])))
def S42_4 : Stmt :=
  Stmt.region
  [SOper.mk (some 102) none (SOp.ibin BinOp.add (Operand.tmp 73) (Operand.const (Value.int IntKind.i64 1))),
    SOper.mk (some 73) none (SOp.mv (Operand.tmp 102))]
  [1, 3, 6, 46, 47, 48, 71, 72, 73]
def S42_5 : Stmt :=
  Stmt.seq
  (Stmt.region [SOper.mk (some 74) none (SOp.ibin BinOp.lss (Operand.tmp 73) (Operand.tmp 72))]
    [1, 3, 6, 46, 47, 48, 71, 72, 73, 74])
  (Stmt.seq (Stmt.cond (Operand.tmp 74) Stmt.skip (Stmt.exit 2))
    (Stmt.join S42_3 S42_4 [6] [1, 3, 46, 47, 48, 71, 72, 73]))
def S42_6 : Stmt :=
  Stmt.seq
  (Stmt.region [SOper.mk (some 49) none (SOp.ibin BinOp.lss (Operand.tmp 48) (Operand.tmp 47))] [1, 3, 46, 47, 48, 49])
  (Stmt.seq (Stmt.cond (Operand.tmp 49) Stmt.skip (Stmt.exit 0))
    (Stmt.seq
      (Stmt.block 1
        (Stmt.seq
          (Stmt.region
            [SOper.mk (some 50) none (SOp.idx 2 (Operand.tmp 46) (Operand.tmp 48)),
              SOper.mk (some 51) none (SOp.load true 2 (Operand.tmp 50)),
              SOper.mk (some 5) none
                (SOp.alloc true 37 (Value.agg (Array.mk [Value.int IntKind.i64 0, Value.slice none 0 0]))),
              SOper.mk none none (SOp.store 2 (Operand.tmp 5) (Operand.tmp 51))]
            [1, 3, 5, 46, 47, 48])
          (Stmt.seq
            (Stmt.seq
              (Stmt.region
                [SOper.mk (some 52) none (SOp.fld 0 (Operand.tmp 5)),
                  SOper.mk (some 53) none (SOp.load false 1 (Operand.tmp 52)),
                  SOper.mk (some 54) none
                    (SOp.ibin BinOp.lss (Operand.tmp 53) (Operand.const (Value.int IntKind.i64 0))),
                  SOper.mk (some 55) none (SOp.mv (Operand.tmp 54)),
                  SOper.mk (some 56) (some (55, false)) (SOp.fld 0 (Operand.tmp 5)),
                  SOper.mk (some 57) (some (55, false)) (SOp.load false 1 (Operand.tmp 56)),
                  SOper.mk (some 58) (some (55, false)) (SOp.fld 1 (Operand.tmp 1)),
                  SOper.mk (some 59) (some (55, false)) (SOp.load false 1 (Operand.tmp 58)),
                  SOper.mk (some 60) (some (55, false)) (SOp.ibin BinOp.geq (Operand.tmp 57) (Operand.tmp 59)),
                  SOper.mk (some 61) none
                    (SOp.pick (Operand.tmp 55) (Operand.const (Value.bool true)) (Operand.tmp 60))]
                [1, 3, 5, 46, 47, 48, 61])
              (Stmt.cond (Operand.tmp 61)
                (Stmt.seq (Stmt.region [SOper.mk (some 2) none (SOp.mv (Operand.const (Value.int IntKind.i64 3)))] [2])
                  Stmt.ret)
                Stmt.skip))
            (Stmt.seq
              (Stmt.seq
                (Stmt.region
                  [SOper.mk (some 62) none (SOp.fld 1 (Operand.tmp 5)),
                    SOper.mk (some 63) none (SOp.load false 1 (Operand.tmp 62)),
                    SOper.mk (some 64) none (SOp.len false (Operand.tmp 63)),
                    SOper.mk (some 65) none
                      (SOp.ibin BinOp.gtr (Operand.tmp 64) (Operand.const (Value.int IntKind.i64 4)))]
                  [1, 3, 5, 46, 47, 48, 65])
                (Stmt.cond (Operand.tmp 65)
                  (Stmt.seq
                    (Stmt.region [SOper.mk (some 2) none (SOp.mv (Operand.const (Value.int IntKind.i64 2)))] [2])
                    Stmt.ret)
                  Stmt.skip))
              (Stmt.seq
                (Stmt.region
                  [SOper.mk (some 66) none (SOp.fld 0 (Operand.tmp 5)),
                    SOper.mk (some 67) none (SOp.load false 1 (Operand.tmp 66)),
                    SOper.mk (some 68) none (SOp.conv IntKind.i32 (Operand.tmp 67)),
                    SOper.mk (some 69) none (SOp.fn Fk.rune [Operand.tmp 68]),
                    SOper.mk (some 6) none (SOp.mv (Operand.tmp 69))]
                  [1, 3, 5, 6, 46, 47, 48])
                (Stmt.seq
                  (Stmt.seq
                    (Stmt.region
                      [SOper.mk (some 70) none (SOp.fld 1 (Operand.tmp 5)),
                        SOper.mk (some 71) none (SOp.load false 1 (Operand.tmp 70)),
                        SOper.mk (some 72) none (SOp.len false (Operand.tmp 71)),
                        SOper.mk (some 73) none (SOp.mv (Operand.const (Value.int IntKind.i64 0)))]
                      [1, 3, 6, 46, 47, 48, 71, 72, 73])
                    (Stmt.block 2 (Stmt.loop S42_5 [6, 73] [1, 3, 46, 47, 48, 71, 72])))
                  (Stmt.seq
                    (Stmt.seq
                      (Stmt.region
                        [SOper.mk (some 103) none (SOp.mv (Operand.tmp 3)),
                          SOper.mk (some 104) none (SOp.mv (Operand.tmp 6)),
                          SOper.mk (some 105) none (SOp.q (Qk.look 118 false) [Operand.tmp 103, Operand.tmp 104])]
                        [1, 3, 6, 46, 47, 48, 105])
                      (Stmt.cond (Operand.tmp 105)
                        (Stmt.seq
                          (Stmt.region [SOper.mk (some 2) none (SOp.mv (Operand.const (Value.int IntKind.i64 6)))] [2])
                          Stmt.ret)
                        Stmt.skip))
                    (Stmt.region
                      [SOper.mk (some 106) none (SOp.mv (Operand.tmp 3)),
                        SOper.mk (some 107) none (SOp.mv (Operand.tmp 6)),
                        SOper.mk none none
                          (SOp.a (Qk.upd 118) [Operand.tmp 106, Operand.tmp 107, Operand.const (Value.bool true)])]
                      [1, 3, 46, 47, 48]))))))))
      (Stmt.region
        [SOper.mk (some 108) none (SOp.ibin BinOp.add (Operand.tmp 48) (Operand.const (Value.int IntKind.i64 1))),
          SOper.mk (some 48) none (SOp.mv (Operand.tmp 108))]
        [1, 3, 46, 47, 48])))
def S42_0 : Stmt :=
  Stmt.seq
  (Stmt.region
    [SOper.mk (some 1) none (SOp.box true 57 (Operand.tmp 0)),
      SOper.mk (some 2) none (SOp.mv (Operand.const (Value.int IntKind.i64 0)))]
    [1])
  (Stmt.seq
    (Stmt.seq
      (Stmt.region
        [SOper.mk (some 10) none (SOp.fld 0 (Operand.tmp 1)),
          SOper.mk (some 11) none (SOp.load false 1 (Operand.tmp 10)),
          SOper.mk (some 12) none (SOp.ibin BinOp.lss (Operand.tmp 11) (Operand.const (Value.int IntKind.i64 1))),
          SOper.mk (some 13) none (SOp.mv (Operand.tmp 12)),
          SOper.mk (some 14) (some (13, false)) (SOp.fld 0 (Operand.tmp 1)),
          SOper.mk (some 15) (some (13, false)) (SOp.load false 1 (Operand.tmp 14)),
          SOper.mk (some 16) (some (13, false))
            (SOp.ibin BinOp.gtr (Operand.tmp 15) (Operand.const (Value.int IntKind.i64 8))),
          SOper.mk (some 17) none (SOp.pick (Operand.tmp 13) (Operand.const (Value.bool true)) (Operand.tmp 16)),
          SOper.mk (some 18) none (SOp.mv (Operand.tmp 17)),
          SOper.mk (some 19) (some (18, false)) (SOp.fld 1 (Operand.tmp 1)),
          SOper.mk (some 20) (some (18, false)) (SOp.load false 1 (Operand.tmp 19)),
          SOper.mk (some 21) (some (18, false))
            (SOp.ibin BinOp.lss (Operand.tmp 20) (Operand.const (Value.int IntKind.i64 1))),
          SOper.mk (some 22) none (SOp.pick (Operand.tmp 18) (Operand.const (Value.bool true)) (Operand.tmp 21)),
          SOper.mk (some 23) none (SOp.mv (Operand.tmp 22)),
          SOper.mk (some 24) (some (23, false)) (SOp.fld 1 (Operand.tmp 1)),
          SOper.mk (some 25) (some (23, false)) (SOp.load false 1 (Operand.tmp 24)),
          SOper.mk (some 26) (some (23, false))
            (SOp.ibin BinOp.gtr (Operand.tmp 25) (Operand.const (Value.int IntKind.i64 10))),
          SOper.mk (some 27) none (SOp.pick (Operand.tmp 23) (Operand.const (Value.bool true)) (Operand.tmp 26)),
          SOper.mk (some 28) none (SOp.mv (Operand.tmp 27)),
          SOper.mk (some 29) (some (28, false)) (SOp.fld 2 (Operand.tmp 1)),
          SOper.mk (some 30) (some (28, false)) (SOp.load false 1 (Operand.tmp 29)),
          SOper.mk (some 31) (some (28, false))
            (SOp.ibin BinOp.lss (Operand.tmp 30) (Operand.const (Value.int IntKind.i64 0))),
          SOper.mk (some 32) none (SOp.pick (Operand.tmp 28) (Operand.const (Value.bool true)) (Operand.tmp 31)),
          SOper.mk (some 33) none (SOp.mv (Operand.tmp 32)),
          SOper.mk (some 34) (some (33, false)) (SOp.fld 2 (Operand.tmp 1)),
          SOper.mk (some 35) (some (33, false)) (SOp.load false 1 (Operand.tmp 34)),
          SOper.mk (some 36) (some (33, false)) (SOp.fld 1 (Operand.tmp 1)),
          SOper.mk (some 37) (some (33, false)) (SOp.load false 1 (Operand.tmp 36)),
          SOper.mk (some 38) (some (33, false)) (SOp.ibin BinOp.geq (Operand.tmp 35) (Operand.tmp 37)),
          SOper.mk (some 39) none (SOp.pick (Operand.tmp 33) (Operand.const (Value.bool true)) (Operand.tmp 38))]
        [1, 39])
      (Stmt.cond (Operand.tmp 39)
        (Stmt.seq (Stmt.region [SOper.mk (some 2) none (SOp.mv (Operand.const (Value.int IntKind.i64 1)))] [2])
          Stmt.ret)
        Stmt.skip))
    (Stmt.seq
      (Stmt.seq
        (Stmt.region
          [SOper.mk (some 40) none (SOp.fld 3 (Operand.tmp 1)),
            SOper.mk (some 41) none (SOp.load false 1 (Operand.tmp 40)),
            SOper.mk (some 42) none (SOp.len false (Operand.tmp 41)),
            SOper.mk (some 43) none (SOp.ibin BinOp.gtr (Operand.tmp 42) (Operand.const (Value.int IntKind.i64 32)))]
          [1, 43])
        (Stmt.cond (Operand.tmp 43)
          (Stmt.seq (Stmt.region [SOper.mk (some 2) none (SOp.mv (Operand.const (Value.int IntKind.i64 2)))] [2])
            Stmt.ret)
          Stmt.skip))
      (Stmt.seq
        (Stmt.region
          [SOper.mk (some 44) none (SOp.n (Qk.mkmap 118) []), SOper.mk (some 3) none (SOp.mv (Operand.tmp 44))] [1, 3])
        (Stmt.seq
          (Stmt.seq
            (Stmt.region
              [SOper.mk (some 45) none (SOp.fld 3 (Operand.tmp 1)),
                SOper.mk (some 46) none (SOp.load false 1 (Operand.tmp 45)),
                SOper.mk (some 47) none (SOp.len false (Operand.tmp 46)),
                SOper.mk (some 48) none (SOp.mv (Operand.const (Value.int IntKind.i64 0)))]
              [1, 3, 46, 47, 48])
            (Stmt.block 0 (Stmt.loop S42_6 [48] [1, 3, 46, 47])))
          (Stmt.seq (Stmt.region [SOper.mk (some 2) none (SOp.mv (Operand.const (Value.int IntKind.i64 0)))] [2])
            Stmt.ret)))))
def S42 : FnS := ⟨109, [(2, none)], S42_0⟩
theorem tr42 : trFn Try.prog 42 [1, 5, 8] [[1], [1, 39], [2], [1, 43], [2], [1, 3], [1, 3, 46, 47, 48], [48], [1, 3, 46, 47], [1, 3, 46, 47, 48, 49], [1, 3, 5, 46, 47, 48], [1, 3, 5, 46, 47, 48, 61], [2], [1, 3, 5, 46, 47, 48, 65], [2], [1, 3, 5, 6, 46, 47, 48], [1, 3, 6, 46, 47, 48, 71, 72, 73], [6, 73], [1, 3, 46, 47, 48, 71, 72], [1, 3, 6, 46, 47, 48, 71, 72, 73, 74], [6], [1, 3, 46, 47, 48, 71, 72, 73], [1, 3, 6, 8, 46, 47, 48, 71, 72, 73], [1, 3, 6, 8, 9, 46, 47, 48, 71, 72, 73], [6, 9], [1, 3, 8, 46, 47, 48, 71, 72, 73], [1, 3, 6, 8, 9, 46, 47, 48, 71, 72, 73, 80], [1, 3, 6, 8, 9, 46, 47, 48, 71, 72, 73], [1, 3, 6, 8, 9, 46, 47, 48, 71, 72, 73], [1, 3, 6, 8, 9, 46, 47, 48, 71, 72, 73], [1, 3, 6, 8, 46, 47, 48, 71, 72, 73, 95], [2], [1, 3, 6, 46, 47, 48, 71, 72, 73], [1, 3, 6, 46, 47, 48, 71, 72, 73], [1, 3, 6, 46, 47, 48, 105], [2], [1, 3, 46, 47, 48], [1, 3, 46, 47, 48], [2]] = some S42 := by kernel_rfl
end Go.Proofs.Ytniobbepliknmaa.V
/- Grammars are checked once more: parlref5.RuleFault walked; no condition. -/
namespace Go.Proofs.Ytniobbepliknmaa.V
open Go
set_option linter.unusedVariables false
set_option linter.unusedSimpArgs false
attribute [local go_sem] e_seq e_region e_quiet e_join e_loop e_cond e_block e_exit e_ret e_skip e_fin e_kseq e_snrm e_sret e_sex e_bnrm e_bret e_bex e_rnrm e_rret e_res e_condC e_nil e_g e_mv g_mv e_pick g_pick pickC_eq e_ibin g_ibin ibinC_eq e_sbin g_sbin e_beq g_beq beqC_eq e_nilq g_nilq nilqC_sl nilqC_pt nilqC_mp e_un g_un unC_not unC_neg e_conv g_conv convC_eq e_fld g_fld fldC_ref fldC_ptr e_nilCheck g_nilCheck nilCheckC_ref nilCheckC_ptr nilCheckC_fun e_field g_field fieldC_eq e_len g_len lenC_sl lenC_str e_extract g_extract extractC_eq e_mkFunc e_build g_build e_idiv g_idiv idivC_eq e_ishift g_ishift ishiftC_eq e_idx g_idx e_idxA g_idxA e_load g_load loadC_ref loadC_ptr loadB_eq e_slc g_slc e_box boxC_loc boxC_esc e_alloc allocC_loc allocC_esc e_buildS e_store storeC_ref storeC_ptr storeB_eq e_append e_appz e_mk mkC_eq e_call callC_eq e_fn g_fn fnC_eq fnV_min' fnV_max' fnV_rune' e_q g_q e_a e_n g_call g_box g_alloc g_buildS g_store g_append g_mk g_a g_n g_dead e_dead e_callK e_drawn e_tree e_finJ e_tk e_tfin e_tno e_nbt_q e_nbt_qn e_nbt_a e_nbt_an e_nbt_fin e_early_nil e_early_t e_early_f e_nob_nil e_nob_none e_nob_some isBox_dead isBox_v isBox_ref e_dnil e_dk e_ek e_finB vcOps_vc1 e_dcons e_tq e_ekt e_tearly e_talt e_dearly look_nil look_c proj_nil proj_c looks_nil looks_c zip_nil zip_c val_tmp val_const val_func slv_v slv_box slv_ref slot_tmp slot_const slot_func slotL_v slotL_box slotL_ref put_some put_none updBox_c boxSet_box gd_eq slotVals_nil slotVals_c slotVals_b boxV_box boxOn_box slotsOn_nil slotsOn_c slotsOn_b resV_one resV_two vals_nil vals_c allOn_nil allOn_c partOn_nil partOn_c partVals_nil partVals_c fits_nil fits_c fillL_nil fillL_c mkv_one mkv_agg cellsV_agg cellsV_int cellsV_bool cellsV_slice cellsV_string cellsV_pointer cellsV_func cellsV_nilf cellsV_map one'_nil one'_c oc_int oc_bool oc_slice oc_string oc_pointer oc_func oc_nilf oc_map setC_eq iv_add iv_sub iv_mul iv_eql iv_neq iv_lss iv_leq iv_gtr iv_geq iok_add iok_sub iok_mul iok_eql iok_neq iok_lss iok_leq iok_gtr iok_geq pickV_bool args0_nil args0_c bnd_none bnd_some imp_bt imp_bf imp_ebt imp_ebf imp_eb1 imp_np imp_pp beq_tt beq_tf beq_ft beq_ff cond_or cond_and e_round e_meet Int.le_refl Int.toNat_zero decide_true decide_false Bool.or_false Bool.false_or Bool.true_or Bool.or_true Bool.and_false Bool.false_and Bool.bne_false Bool.bne_true beq_iff_eq Int.cast_ofNat_Int not_false_eq_true not_true_eq_false false_and and_false false_implies true_implies true_and and_true Bool.true_and Bool.and_true Bool.not_true Bool.not_false forall_const implies_true List.take_zero List.drop_zero List.take_succ_cons List.drop_succ_cons List.take_nil List.drop_nil List.length_cons List.length_nil List.nil_append List.append_nil List.cons_append Int.toNat_natCast decide_eq_true_eq decide_eq_false_iff_not cond_true cond_false and_self List.getElem?_cons_zero List.getElem?_cons_succ List.set_cons_zero List.set_cons_succ Option.some.injEq exists_eq_left' Nat.zero_add Nat.add_zero Nat.mul_one imp_self true_or or_true or_false false_or Bool.or_eq_true Bool.or_eq_false_iff Bool.and_eq_true Bool.and_eq_false_iff Bool.not_eq_true' Bool.not_eq_false'

def strB (l : List UInt8) : Value := .string ⟨l.toArray⟩
theorem strB_inj (a b : List UInt8) (h : strB a = strB b) : a = b := by
  simp only [strB, Value.string.injEq, ByteArray.mk.injEq] at h
  simpa using congrArg Array.toList h
theorem kt_str {P : Program} {k : TypeId} (hk : P.underlying k = some .string) : KT P k strB (fun l => l.length ≤ 1000) :=
  KT.of (Maps.string_keyed hk) strB_inj fun a ha => ⟨Lit.string a, by simp [strB, keyOf, hk, mapKey, ByteArray.size]; unfold maxLen; omega⟩
theorem rune_str {n : Int} (h0 : 0 ≤ n) (h1 : n < 10) : Value.string (Utf8.encode (IntKind.i32.wrap n)) = strB [UInt8.ofNat n.toNat] := by
  obtain ⟨m, rfl⟩ : ∃ m : Nat, n = m := ⟨n.toNat, by omega⟩
  have : m = 0 ∨ m = 1 ∨ m = 2 ∨ m = 3 ∨ m = 4 ∨ m = 5 ∨ m = 6 ∨ m = 7 ∨ m = 8 ∨ m = 9 := by omega
  rcases this with rfl | rfl | rfl | rfl | rfl | rfl | rfl | rfl | rfl | rfl <;> rfl
theorem fn_cat {a b : List UInt8} (h : a.length + b.length ≤ 1000000) : fnV .cat [strB a, strB b] = some (strB (a ++ b)) := by
  have : (ByteArray.mk a.toArray).size + (ByteArray.mk b.toArray).size ≤ 9223372036854775807 := by simp only [ByteArray.size, List.size_toArray]; omega
  simp only [fnV, strB, if_pos this]
  refine congrArg (fun x => some (Value.string x)) (ByteArray.ext ?_)
  simp

def symK (s : Sy) : List UInt8 := [if s.t then 116 else 110, UInt8.ofNat s.n.toNat]
def symsK (l : List Sy) : List UInt8 := l.flatMap symK
def keyK (r : Ru) : List UInt8 := UInt8.ofNat r.l.toNat :: symsK r.r
def okSy (s : Sy) : Prop := 0 ≤ s.n ∧ s.n < 10
theorem byte_inj {a b : Int} (h0 : 0 ≤ a) (h1 : a < 10) (h2 : 0 ≤ b) (h3 : b < 10) (h : UInt8.ofNat a.toNat = UInt8.ofNat b.toNat) : a = b := by
  have := congrArg UInt8.toNat h
  simp only [UInt8.toNat_ofNat'] at this
  omega
theorem symK_inj {s t : Sy} (hs : okSy s) (ht : okSy t) (h : symK s = symK t) : s = t := by
  obtain ⟨a, m⟩ := s
  obtain ⟨b, n⟩ := t
  simp only [symK, List.cons.injEq, and_true] at h
  have := byte_inj hs.1 hs.2 ht.1 ht.2 h.2
  simp only at this
  subst this
  cases a <;> cases b <;> simp at h ⊢
theorem symsK_inj : ∀ {l k : List Sy}, (∀ s ∈ l, okSy s) → (∀ s ∈ k, okSy s) → symsK l = symsK k → l = k
  | [], [], _, _, _ => rfl
  | [], t :: k, _, _, h => by simp [symsK, symK] at h
  | s :: l, [], _, _, h => by simp [symsK, symK] at h
  | s :: l, t :: k, hl, hk, h => by
    have e : symsK (s :: l) = symK s ++ symsK l := rfl
    have e' : symsK (t :: k) = symK t ++ symsK k := rfl
    rw [e, e'] at h
    have h1 := List.append_inj h rfl
    rw [symK_inj (hl s (by simp)) (hk t (by simp)) h1.1, symsK_inj (fun x hx => hl x (by simp [hx])) (fun x hx => hk x (by simp [hx])) h1.2]
theorem symsK_len (l : List Sy) : (symsK l).length = 2 * l.length := by
  induction l with
  | nil => rfl
  | cons s l ih => rw [show symsK (s :: l) = symK s ++ symsK l from rfl, List.length_append, ih]; simp [symK]; omega

theorem rule_fault {Γr : Ctx} {g : Gr} {A : Option Addr} {c : Nat} (hx : SlOk (lk Γr) A c g.rs) :
    Ret Try.prog 42 [.agg #[.int .i64 g.ts, .int .i64 g.ns, .int .i64 g.st, .slice A g.rs.length c]] Γr [] (fun v Γ => Γ = [] ∧ v = .int .i64 (ckF g)) := by
  generalize hR : (fun (v : Value) (Γ : Ctx) => Γ = [] ∧ _) = R
  refine ret_of_vc tr42 (Nat.le_of_ble_eq_true rfl) ?_
  simp -implicitDefEqProofs only [S42, S42_0, go_sem, Nat.reduceBEq, Nat.reduceAdd, Nat.reduceSub, Nat.reduceMul, Nat.reduceLeDiff, reduceCtorEq, ↓reduceIte, Int.reduceLT, Int.reduceLE, Int.reduceEq, Int.reduceNe]
  intro b
  refine ⟨fun h => Up.here ?_, fun hok => ⟨fun h => Up.here ?_, fun h32 => ?_⟩⟩
  · subst hR
    exact ⟨rfl, by rw [ckF, if_pos (by unfold badHead; omega)]⟩
  · subst hR
    exact ⟨rfl, by rw [ckF, if_neg (by unfold badHead; omega), if_pos (by omega)]⟩
  have hck : ckF g = ckR g g.rs.length := by rw [ckF, if_neg (by unfold badHead; omega), if_neg (by omega)]
  refine s_mkmap fun bm => ?_
  simp -implicitDefEqProofs only [go_sem, Nat.reduceBEq, Nat.reduceAdd, Nat.reduceSub, Nat.reduceMul, Nat.reduceLeDiff, reduceCtorEq, ↓reduceIte, Int.reduceLT, Int.reduceLE, Int.reduceEq, Int.reduceNe]
  have hkt : KT Try.prog 9 strB (fun l => l.length ≤ 1000) := kt_str (by kernel_rfl)
  refine s_loop (fun f vs Γ => ∃ gm, Γ = [gm] ∧ ∃ (k : Nat), vs = [.v true (.int .i64 k)] ∧ k + f = g.rs.length ∧ ckR g k = 0 ∧ (∀ r ∈ g.rs.take k, (0 ≤ r.l ∧ r.l < 10) ∧ r.r.length ≤ 4 ∧ ∀ s ∈ r.r, okSy s) ∧ MapM gm bm strB Value.bool (fun l => l.length ≤ 1000) (mset keyK (g.rs.take k))) g.rs.length
    (Up.here ⟨_, rfl, 0, rfl, by omega, rfl, by simp, MapM.new _ _ _ _⟩) ?_
  rintro f vs Γ ⟨gm, rfl, k, rfl, hkf, hck0, hall, hM⟩
  simp -implicitDefEqProofs only [S42_6, go_sem, Nat.reduceBEq, Nat.reduceAdd, Nat.reduceSub, Nat.reduceMul, Nat.reduceLeDiff, reduceCtorEq, ↓reduceIte, Int.reduceLT, Int.reduceLE, Int.reduceEq, Int.reduceNe]
  refine ⟨fun hlt => ?_, fun hge => ?_⟩
  · have hk : k < g.rs.length := by omega
    have hgen : ∀ x, faultAt g k g.rs[k] = x → x ≠ 0 → ckF g = x := fun x h1 h2 => by rw [hck, ckR_fault hk hck0 (by rw [h1]; exact h2), h1]
    have hzero : faultAt g k g.rs[k] = 0 → ckR g (k + 1) = 0 := fun h => by rw [ckR_step hk hck0, h]
    obtain ⟨b1, o1, hA, A', c', hr, hc1⟩ := hx.ru hk
    have hrl := hr.short
    refine s_idx hA (by omega) (by omega) ?_
    simp -implicitDefEqProofs only [go_sem, Nat.reduceBEq, Nat.reduceAdd, Nat.reduceSub, Nat.reduceMul, Nat.reduceLeDiff, reduceCtorEq, ↓reduceIte, Int.reduceLT, Int.reduceLE, Int.reduceEq, Int.reduceNe]
    refine s_ld0 (hc1 _ (lk_r _ _)) (by simp) (by simp) ?_
    simp -implicitDefEqProofs only [go_sem, Nat.reduceBEq, Nat.reduceAdd, Nat.reduceSub, Nat.reduceMul, Nat.reduceLeDiff, reduceCtorEq, ↓reduceIte, Int.reduceLT, Int.reduceLE, Int.reduceEq, Int.reduceNe]
    refine ⟨fun h => Up.to [] (Ent.nil _) ?_, fun hl => ⟨fun h => Up.to [] (Ent.nil _) ?_, fun h4 => ?_⟩⟩
    · subst hR
      exact ⟨rfl, by rw [hgen 3 (by rw [faultAt, if_pos h]) (by decide)]⟩
    · subst hR
      exact ⟨rfl, by rw [hgen 2 (by rw [faultAt, if_neg (by omega), if_pos (by omega)]) (by decide)]⟩
    have hf1 : faultAt g k g.rs[k] = if g.rs[k].r.any (badSy g.ts g.ns) = true then 3 else if g.rs[k] ∈ g.rs.take k then 6 else 0 := by
      rw [faultAt, if_neg (by omega), if_neg (by omega)]
    rw [rune_str (by omega) (by omega)]
    refine s_loop (fun f' vs Γ => ∃ gm, Γ = [gm] ∧ MapM gm bm strB Value.bool (fun l => l.length ≤ 1000) (mset keyK (g.rs.take k)) ∧ ∃ j : Nat, vs = [.v true (strB (UInt8.ofNat g.rs[k].l.toNat :: symsK (g.rs[k].r.take j))), .v true (.int .i64 j)] ∧ j + f' = g.rs[k].r.length ∧ ∀ (i : Nat) (h : i < g.rs[k].r.length), i < j → badSy g.ts g.ns g.rs[k].r[i] = false ∧ okSy g.rs[k].r[i]) g.rs[k].r.length
      (Up.here ⟨_, rfl, hM, 0, rfl, by omega, by intro i _ h; omega⟩) ?_
    rintro f' vs Γ ⟨gm, rfl, hM, j, rfl, hjf, hno⟩
    simp -implicitDefEqProofs only [S42_5, go_sem, Nat.reduceBEq, Nat.reduceAdd, Nat.reduceSub, Nat.reduceMul, Nat.reduceLeDiff, reduceCtorEq, ↓reduceIte, Int.reduceLT, Int.reduceLE, Int.reduceEq, Int.reduceNe]
    refine ⟨fun hlt => ?_, fun hge => ?_⟩
    · have hj : j < g.rs[k].r.length := by omega
      refine s_split ?_
      simp -implicitDefEqProofs only [S42_3, S42_4, go_sem, Nat.reduceBEq, Nat.reduceAdd, Nat.reduceSub, Nat.reduceMul, Nat.reduceLeDiff, reduceCtorEq, ↓reduceIte, Int.reduceLT, Int.reduceLE, Int.reduceEq, Int.reduceNe]
      obtain ⟨b3, o3, hA3, hc3⟩ := hr.sy hj
      refine s_idx hA3 (by omega) (by omega) ?_
      simp -implicitDefEqProofs only [go_sem, Nat.reduceBEq, Nat.reduceAdd, Nat.reduceSub, Nat.reduceMul, Nat.reduceLeDiff, reduceCtorEq, ↓reduceIte, Int.reduceLT, Int.reduceLE, Int.reduceEq, Int.reduceNe]
      refine s_ld0 (hc3 _ (lk_r _ _)) (by simp) (by simp) ?_
      simp -implicitDefEqProofs only [go_sem, Nat.reduceBEq, Nat.reduceAdd, Nat.reduceSub, Nat.reduceMul, Nat.reduceLeDiff, reduceCtorEq, ↓reduceIte, Int.reduceLT, Int.reduceLE, Int.reduceEq, Int.reduceNe]
      intro b4
      have hlen1 : (symsK (g.rs[k].r.take j)).length ≤ 8 := by rw [symsK_len, List.length_take]; omega
      refine s_join (fun vs Γ' => Γ' = [gm] ∧ vs = [.v true (strB (UInt8.ofNat g.rs[k].l.toNat :: symsK (g.rs[k].r.take j) ++ [if g.rs[k].r[j].t then 116 else 110])), .v true (.int .i64 (if g.rs[k].r[j].t then g.ts else g.ns))]) ?_ ?_
      · simp -implicitDefEqProofs only [S42_1, go_sem, Nat.reduceBEq, Nat.reduceAdd, Nat.reduceSub, Nat.reduceMul, Nat.reduceLeDiff, reduceCtorEq, ↓reduceIte, Int.reduceLT, Int.reduceLE, Int.reduceEq, Int.reduceNe]
        refine ⟨fun ht => ?_, fun ht => ?_⟩
        · rw [show Value.string (ByteArray.mk (Array.mk [UInt8.ofNat 116])) = strB [116] from rfl, fn_cat (by simp only [List.length_cons, List.length_nil]; omega)]
          simp -implicitDefEqProofs only [go_sem, Nat.reduceBEq, Nat.reduceAdd, Nat.reduceSub, Nat.reduceMul, Nat.reduceLeDiff, reduceCtorEq, ↓reduceIte, Int.reduceLT, Int.reduceLE, Int.reduceEq, Int.reduceNe]
          exact Up.here ⟨rfl, by rw [ht]; rfl⟩
        · rw [show Value.string (ByteArray.mk (Array.mk [UInt8.ofNat 110])) = strB [110] from rfl, fn_cat (by simp only [List.length_cons, List.length_nil]; omega)]
          simp -implicitDefEqProofs only [go_sem, Nat.reduceBEq, Nat.reduceAdd, Nat.reduceSub, Nat.reduceMul, Nat.reduceLeDiff, reduceCtorEq, ↓reduceIte, Int.reduceLT, Int.reduceLE, Int.reduceEq, Int.reduceNe]
          exact Up.here ⟨rfl, by rw [ht]; rfl⟩
      · rintro vs Γ' ⟨rfl, rfl⟩
        simp -implicitDefEqProofs only [S42_2, go_sem, Nat.reduceBEq, Nat.reduceAdd, Nat.reduceSub, Nat.reduceMul, Nat.reduceLeDiff, reduceCtorEq, ↓reduceIte, Int.reduceLT, Int.reduceLE, Int.reduceEq, Int.reduceNe]
        refine ⟨fun h => Up.to [] (Ent.nil _) ?_, fun h => ?_⟩
        · have hb : g.rs[k].r.any (badSy g.ts g.ns) = true := List.any_eq_true.2 ⟨g.rs[k].r[j], List.getElem_mem hj, by
            unfold badSy
            cases ht : g.rs[k].r[j].t <;> simp only [ht, if_true, if_false, Bool.false_eq_true] at h <;> simp <;> omega⟩
          subst hR
          exact ⟨rfl, by rw [hgen 3 (by rw [hf1, if_pos hb]) (by decide)]⟩
        · have hok2 : okSy g.rs[k].r[j] := by
            unfold okSy
            cases ht : g.rs[k].r[j].t <;> simp only [ht, if_true, if_false, Bool.false_eq_true] at h <;> omega
          have hnb : badSy g.ts g.ns g.rs[k].r[j] = false := by
            unfold badSy
            cases ht : g.rs[k].r[j].t <;> simp only [ht, if_true, if_false, Bool.false_eq_true] at h <;> simp <;> omega
          rw [rune_str hok2.1 hok2.2, fn_cat (by simp only [List.length_cons, List.length_append, List.length_nil]; omega)]
          simp -implicitDefEqProofs only [go_sem, Nat.reduceBEq, Nat.reduceAdd, Nat.reduceSub, Nat.reduceMul, Nat.reduceLeDiff, reduceCtorEq, ↓reduceIte, Int.reduceLT, Int.reduceLE, Int.reduceEq, Int.reduceNe]
          simp (disch := omega) only [wrap_id]
          refine Up.here ⟨f' - 1, by omega, Up.here ⟨_, rfl, hM, j + 1, ?_, by omega, fun i hi hij => ?_⟩⟩
          · have e : symsK (g.rs[k].r.take (j + 1)) = symsK (g.rs[k].r.take j) ++ symK g.rs[k].r[j] := by
              rw [List.take_succ_eq_append_getElem hj]
              simp only [symsK, List.flatMap_append, List.flatMap_cons, List.flatMap_nil, List.append_nil]
            rw [e]
            simp [symK]
          · by_cases e : i = j
            · subst e; exact ⟨hnb, hok2⟩
            · exact hno i hi (by omega)
    have hj : j = g.rs[k].r.length := by omega
    rw [hj, List.take_length]
    have hnb : ¬ (g.rs[k].r.any (badSy g.ts g.ns) = true) := by
      intro h
      obtain ⟨x, hx, hb⟩ := List.any_eq_true.1 h
      obtain ⟨i, hi, rfl⟩ := List.getElem_of_mem hx
      rw [(hno i hi (by omega)).1] at hb
      cases hb
    have hf2 : faultAt g k g.rs[k] = if g.rs[k] ∈ g.rs.take k then 6 else 0 := by rw [hf1, if_neg hnb]
    have hokr : (0 ≤ g.rs[k].l ∧ g.rs[k].l < 10) ∧ g.rs[k].r.length ≤ 4 ∧ ∀ s ∈ g.rs[k].r, okSy s := by
      refine ⟨by omega, by omega, fun s hs => ?_⟩
      obtain ⟨i, hi, rfl⟩ := List.getElem_of_mem hs
      exact (hno i hi (by omega)).2
    rw [show UInt8.ofNat g.rs[k].l.toNat :: symsK g.rs[k].r = keyK g.rs[k] from rfl]
    have hkl : (keyK g.rs[k]).length ≤ 1000 := by simp only [keyK, List.length_cons, symsK_len]; omega
    have hkinj : ∀ r ∈ g.rs.take k, keyK r = keyK g.rs[k] → r = g.rs[k] := by
      intro r hr he
      have h1 := hall r hr
      simp only [keyK, List.cons.injEq] at he
      have e1 := byte_inj h1.1.1 h1.1.2 hokr.1.1 hokr.1.2 he.1
      have e2 := symsK_inj h1.2.2 hokr.2.2 he.2
      cases r
      simp only at e1 e2
      rw [e1, e2]
    refine s_q trivial (qr_look hkt (et := 4) (z := .bool false) (by kernel_rfl) (zero_run (by kernel_rfl)) false (hM.l (by simp)) hkl) ?_
    simp -implicitDefEqProofs only [go_sem, Nat.reduceBEq, Nat.reduceAdd, Nat.reduceSub, Nat.reduceMul, Nat.reduceLeDiff, reduceCtorEq, ↓reduceIte, Int.reduceLT, Int.reduceLE, Int.reduceEq, Int.reduceNe]
    rw [mget_set]
    by_cases hin : g.rs[k] ∈ g.rs.take k
    · rw [if_pos (List.mem_map.2 ⟨_, hin, rfl⟩)]
      simp only [Option.elim_some]
      simp -implicitDefEqProofs only [go_sem, Nat.reduceBEq, Nat.reduceAdd, Nat.reduceSub, Nat.reduceMul, Nat.reduceLeDiff, reduceCtorEq, ↓reduceIte, Int.reduceLT, Int.reduceLE, Int.reduceEq, Int.reduceNe]
      refine Up.to [] (Ent.nil _) ?_
      subst hR
      exact ⟨rfl, by rw [hgen 6 (by rw [hf2, if_pos hin]) (by decide)]⟩
    · have hnk : keyK g.rs[k] ∉ (g.rs.take k).map keyK := by
        intro h
        obtain ⟨r, hr, he⟩ := List.mem_map.1 h
        exact hin (hkinj r hr he ▸ hr)
      rw [if_neg hnk]
      simp only [Option.elim_none]
      simp -implicitDefEqProofs only [go_sem, Nat.reduceBEq, Nat.reduceAdd, Nat.reduceSub, Nat.reduceMul, Nat.reduceLeDiff, reduceCtorEq, ↓reduceIte, Int.reduceLT, Int.reduceLE, Int.reduceEq, Int.reduceNe]
      refine s_upd hkt (et := 4) (ix := 0) (eV := Value.bool) (by kernel_rfl) rfl hM true hkl ?_
      intro g' hM' _
      rw [mput_set _ _ _ hnk, ← List.take_succ_eq_append_getElem hk] at hM'
      simp -implicitDefEqProofs only [go_sem, Nat.reduceBEq, Nat.reduceAdd, Nat.reduceSub, Nat.reduceMul, Nat.reduceLeDiff, reduceCtorEq, ↓reduceIte, Int.reduceLT, Int.reduceLE, Int.reduceEq, Int.reduceNe]
      simp (disch := omega) only [wrap_id]
      refine ⟨f - 1, by omega, Up.here ⟨_, rfl, k + 1, rfl, by omega, hzero (by rw [hf2, if_neg hin]), fun r hr => ?_, hM'⟩⟩
      rw [List.take_succ_eq_append_getElem hk, List.mem_append, List.mem_singleton] at hr
      rcases hr with hr | rfl
      · exact hall r hr
      · exact hokr
  · have hk : k = g.rs.length := by omega
    subst hk
    refine Up.to [] (Ent.nil _) ?_
    subst hR
    exact ⟨rfl, by rw [hck, hck0]⟩
end Go.Proofs.Ytniobbepliknmaa.V
/- The text of parlance/parllaw5.ApproxParts as a statement (slots: 0 g, 1 g, 3 l, 4 e, 5 l, 6 e, 7 f, 8 sets, 9 kinds, 10 i, 11 c); no condition. -/
namespace Go.Proofs.Ytniobbepliknmaa.V
open Go
def S11_1 : Stmt :=
  Stmt.seq
  (Stmt.region [SOper.mk (some 65) none (SOp.ibin BinOp.lss (Operand.tmp 64) (Operand.tmp 63))] [8, 9, 62, 63, 64, 65])
  (Stmt.seq (Stmt.cond (Operand.tmp 65) Stmt.skip (Stmt.exit 0))
    (Stmt.seq
      (Stmt.block 1
        (Stmt.seq
          (Stmt.region
            [SOper.mk (some 66) none (SOp.mv (Operand.tmp 64)),
              SOper.mk (some 67) none (SOp.idx 2 (Operand.tmp 62) (Operand.tmp 64)),
              SOper.mk (some 68) none (SOp.load true 2 (Operand.tmp 67)),
              SOper.mk (some 11) none
                (SOp.alloc true 91 (Value.agg (Array.mk [Value.int IntKind.i64 0, Value.slice none 0 0]))),
              SOper.mk (some 10) none (SOp.mv (Operand.tmp 66)),
              SOper.mk none none (SOp.store 2 (Operand.tmp 11) (Operand.tmp 68))]
            [8, 9, 10, 11, 62, 63, 64])
          (Stmt.seq
            (Stmt.drawn
              [(false, SOper.mk (some 69) none (SOp.fld 0 (Operand.tmp 11))),
                (false, SOper.mk (some 70) none (SOp.load false 1 (Operand.tmp 69))),
                (false, SOper.mk (some 71) none (SOp.mv (Operand.tmp 9))),
                (false, SOper.mk (some 72) none (SOp.mv (Operand.tmp 10))),
                (false, SOper.mk (some 73) none (SOp.idx 1 (Operand.tmp 71) (Operand.tmp 72))),
                (false, SOper.mk (some 74) none (SOp.load false 1 (Operand.tmp 73))),
                (false, SOper.mk (some 75) none (SOp.ibin BinOp.neq (Operand.tmp 70) (Operand.tmp 74))),
                (false, SOper.mk (some 76) none (SOp.mv (Operand.tmp 75))),
                (false, SOper.mk (some 77) (some (76, false)) (SOp.fld 1 (Operand.tmp 11))),
                (false, SOper.mk (some 78) (some (76, false)) (SOp.load false 1 (Operand.tmp 77))),
                (false, SOper.mk (some 79) (some (76, false)) (SOp.mv (Operand.tmp 8))),
                (false, SOper.mk (some 80) (some (76, false)) (SOp.mv (Operand.tmp 10))),
                (false, SOper.mk (some 81) (some (76, false)) (SOp.idx 1 (Operand.tmp 79) (Operand.tmp 80))),
                (false, SOper.mk (some 82) (some (76, false)) (SOp.load false 1 (Operand.tmp 81))),
                (false,
                  SOper.mk (some 83) (some (76, false)) (SOp.call (Operand.func 28) [Operand.tmp 78, Operand.tmp 82])),
                (false, SOper.mk (some 84) (some (76, false)) (SOp.un UnOp.not (Operand.tmp 83))),
                (false,
                  SOper.mk (some 85) none
                    (SOp.pick (Operand.tmp 76) (Operand.const (Value.bool true)) (Operand.tmp 84)))]
              [8, 9, 62, 63, 64, 85])
            (Stmt.cond (Operand.tmp 85)
              (Stmt.seq (Stmt.region [SOper.mk (some 2) none (SOp.mv (Operand.const (Value.bool false)))] [2]) Stmt.ret)
              Stmt.skip))))
      (Stmt.region
        [SOper.mk (some 86) none (SOp.ibin BinOp.add (Operand.tmp 64) (Operand.const (Value.int IntKind.i64 1))),
          SOper.mk (some 64) none (SOp.mv (Operand.tmp 86))]
        [8, 9, 62, 63, 64])))
def S11_0 : Stmt :=
  Stmt.seq
  (Stmt.region
    [SOper.mk (some 1) none (SOp.box true 57 (Operand.tmp 0)),
      SOper.mk (some 2) none (SOp.mv (Operand.const (Value.bool false)))]
    [1])
  (Stmt.seq
    (Stmt.seq
      (Stmt.region
        [SOper.mk (some 13) none (SOp.call (Operand.func 40) []),
          SOper.mk (some 14) none (SOp.call (Operand.func 55) [Operand.tmp 13]),
          SOper.mk (some 12) none (SOp.mv (Operand.tmp 14)), SOper.mk (some 15) none (SOp.extract 0 (Operand.tmp 12)),
          SOper.mk (some 16) none (SOp.extract 1 (Operand.tmp 12)), SOper.mk (some 3) none (SOp.mv (Operand.tmp 15)),
          SOper.mk (some 4) none (SOp.mv (Operand.tmp 16))]
        [1, 3, 4])
      (Stmt.seq
        (Stmt.region
          [SOper.mk (some 17) none (SOp.mv (Operand.tmp 4)),
            SOper.mk (some 18) none (SOp.ibin BinOp.neq (Operand.tmp 17) (Operand.const (Value.int IntKind.i64 0))),
            SOper.mk (some 19) none (SOp.mv (Operand.tmp 18)),
            SOper.mk (some 20) (some (19, false)) (SOp.mv (Operand.tmp 3)),
            SOper.mk (some 21) (some (19, false)) (SOp.len false (Operand.tmp 20)),
            SOper.mk (some 22) (some (19, false))
              (SOp.ibin BinOp.neq (Operand.tmp 21) (Operand.const (Value.int IntKind.i64 1))),
            SOper.mk (some 23) none (SOp.pick (Operand.tmp 19) (Operand.const (Value.bool true)) (Operand.tmp 22)),
            SOper.mk (some 24) none (SOp.mv (Operand.tmp 23)),
            SOper.mk (some 25) (some (24, false)) (SOp.mv (Operand.tmp 3)),
            SOper.mk (some 26) (some (24, false))
              (SOp.idx 2 (Operand.tmp 25) (Operand.const (Value.int IntKind.i64 0))),
            SOper.mk (some 27) (some (24, false)) (SOp.fld 0 (Operand.tmp 26)),
            SOper.mk (some 28) (some (24, false)) (SOp.load false 1 (Operand.tmp 27)),
            SOper.mk (some 29) (some (24, false))
              (SOp.ibin BinOp.neq (Operand.tmp 28) (Operand.const (Value.int IntKind.i64 0))),
            SOper.mk (some 30) none (SOp.pick (Operand.tmp 24) (Operand.const (Value.bool true)) (Operand.tmp 29))]
          [1, 30])
        (Stmt.cond (Operand.tmp 30)
          (Stmt.seq (Stmt.region [SOper.mk (some 2) none (SOp.mv (Operand.const (Value.bool false)))] [2]) Stmt.ret)
          Stmt.skip)))
    (Stmt.seq
      (Stmt.region
        [SOper.mk (some 32) none (SOp.load true 4 (Operand.tmp 1)),
          SOper.mk (some 33) none (SOp.call (Operand.func 55) [Operand.tmp 32]),
          SOper.mk (some 31) none (SOp.mv (Operand.tmp 33)), SOper.mk (some 34) none (SOp.extract 0 (Operand.tmp 31)),
          SOper.mk (some 35) none (SOp.extract 1 (Operand.tmp 31)), SOper.mk (some 5) none (SOp.mv (Operand.tmp 34)),
          SOper.mk (some 6) none (SOp.mv (Operand.tmp 35))]
        [1, 5, 6])
      (Stmt.seq
        (Stmt.seq
          (Stmt.region
            [SOper.mk (some 36) none (SOp.load true 4 (Operand.tmp 1)),
              SOper.mk (some 37) none (SOp.call (Operand.func 42) [Operand.tmp 36]),
              SOper.mk (some 7) none (SOp.mv (Operand.tmp 37))]
            [1, 5, 6, 7])
          (Stmt.seq
            (Stmt.region
              [SOper.mk (some 38) none (SOp.mv (Operand.tmp 7)),
                SOper.mk (some 39) none (SOp.ibin BinOp.neq (Operand.tmp 38) (Operand.const (Value.int IntKind.i64 0)))]
              [1, 5, 6, 7, 39])
            (Stmt.cond (Operand.tmp 39)
              (Stmt.seq
                (Stmt.region
                  [SOper.mk (some 40) none (SOp.mv (Operand.tmp 6)), SOper.mk (some 41) none (SOp.mv (Operand.tmp 7)),
                    SOper.mk (some 42) none (SOp.ibin BinOp.eql (Operand.tmp 40) (Operand.tmp 41)),
                    SOper.mk (some 43) none (SOp.mv (Operand.tmp 42)),
                    SOper.mk (some 44) (some (43, true)) (SOp.mv (Operand.tmp 5)),
                    SOper.mk (some 45) (some (43, true)) (SOp.len false (Operand.tmp 44)),
                    SOper.mk (some 46) (some (43, true))
                      (SOp.ibin BinOp.eql (Operand.tmp 45) (Operand.const (Value.int IntKind.i64 0))),
                    SOper.mk (some 47) none
                      (SOp.pick (Operand.tmp 43) (Operand.tmp 46) (Operand.const (Value.bool false))),
                    SOper.mk (some 2) none (SOp.mv (Operand.tmp 47))]
                  [2])
                Stmt.ret)
              Stmt.skip)))
        (Stmt.seq
          (Stmt.region
            [SOper.mk (some 49) none (SOp.load true 4 (Operand.tmp 1)),
              SOper.mk (some 50) none (SOp.call (Operand.func 56) [Operand.tmp 49]),
              SOper.mk (some 48) none (SOp.mv (Operand.tmp 50)),
              SOper.mk (some 51) none (SOp.extract 0 (Operand.tmp 48)),
              SOper.mk (some 52) none (SOp.extract 1 (Operand.tmp 48)),
              SOper.mk (some 8) none (SOp.mv (Operand.tmp 51)), SOper.mk (some 9) none (SOp.mv (Operand.tmp 52))]
            [5, 6, 8, 9])
          (Stmt.seq
            (Stmt.seq
              (Stmt.region
                [SOper.mk (some 53) none (SOp.mv (Operand.tmp 6)),
                  SOper.mk (some 54) none
                    (SOp.ibin BinOp.neq (Operand.tmp 53) (Operand.const (Value.int IntKind.i64 0))),
                  SOper.mk (some 55) none (SOp.mv (Operand.tmp 54)),
                  SOper.mk (some 56) (some (55, false)) (SOp.mv (Operand.tmp 5)),
                  SOper.mk (some 57) (some (55, false)) (SOp.len false (Operand.tmp 56)),
                  SOper.mk (some 58) (some (55, false)) (SOp.mv (Operand.tmp 8)),
                  SOper.mk (some 59) (some (55, false)) (SOp.len false (Operand.tmp 58)),
                  SOper.mk (some 60) (some (55, false)) (SOp.ibin BinOp.neq (Operand.tmp 57) (Operand.tmp 59)),
                  SOper.mk (some 61) none
                    (SOp.pick (Operand.tmp 55) (Operand.const (Value.bool true)) (Operand.tmp 60))]
                [5, 8, 9, 61])
              (Stmt.cond (Operand.tmp 61)
                (Stmt.seq (Stmt.region [SOper.mk (some 2) none (SOp.mv (Operand.const (Value.bool false)))] [2])
                  Stmt.ret)
                Stmt.skip))
            (Stmt.seq
              (Stmt.seq
                (Stmt.region
                  [SOper.mk (some 62) none (SOp.mv (Operand.tmp 5)),
                    SOper.mk (some 63) none (SOp.len false (Operand.tmp 62)),
                    SOper.mk (some 64) none (SOp.mv (Operand.const (Value.int IntKind.i64 0)))]
                  [8, 9, 62, 63, 64])
                (Stmt.block 0 (Stmt.loop S11_1 [64] [8, 9, 62, 63])))
              (Stmt.seq (Stmt.region [SOper.mk (some 2) none (SOp.mv (Operand.const (Value.bool true)))] [2])
                Stmt.ret)))))))
def S11 : FnS := ⟨87, [(2, none)], S11_0⟩
theorem tr11 : trFn Try.prog 11 [1, 11] [[1], [1, 3, 4], [1, 30], [2], [1, 5, 6], [1, 5, 6, 7], [1, 5, 6, 7, 39], [2], [5, 6, 8, 9], [5, 8, 9, 61], [2], [8, 9, 62, 63, 64], [64], [8, 9, 62, 63], [8, 9, 62, 63, 64, 65], [8, 9, 10, 11, 62, 63, 64], [8, 9, 62, 63, 64, 85], [0, 1, 2, 3, 4, 5, 6, 7, 8, 9, 10, 11, 12, 13, 14, 15, 16], [], [], [0], [], [], [2, 3], [2, 3, 4], [0, 1, 2, 3, 4, 5], [0, 1, 2, 3, 4, 5, 6], [0, 1, 2, 3, 4, 5, 6, 7], [0, 1, 2, 3, 4, 5, 6, 7, 8], [0, 1, 2, 3, 4, 5, 6, 7], [0, 1, 2, 3, 4, 5, 6, 7], [0, 1, 2, 3, 4, 5, 6, 7, 10, 11], [0, 1, 2, 3, 4, 5, 6, 7, 10, 11, 12], [0, 1, 2, 3, 4, 5, 6, 7, 8, 9, 10, 11, 12, 13], [0, 1, 2, 3, 4, 5, 6, 7, 8, 9, 10, 11, 12, 13, 14], [0, 1, 2, 3, 4, 5, 6, 7, 8, 9, 10, 11, 12, 13, 14, 15], [2], [8, 9, 62, 63, 64], [2]] = some S11 := by kernel_rfl
end Go.Proofs.Ytniobbepliknmaa.V
/- The law of parllaw5.ApproxParts: it answers true; no condition. -/
namespace Go.Proofs.Ytniobbepliknmaa.V
open Go
set_option linter.unusedVariables false
set_option linter.unusedSimpArgs false
attribute [local go_sem] e_seq e_region e_quiet e_join e_loop e_cond e_block e_exit e_ret e_skip e_fin e_kseq e_snrm e_sret e_sex e_bnrm e_bret e_bex e_rnrm e_rret e_res e_condC e_nil e_g e_mv g_mv e_pick g_pick pickC_eq e_ibin g_ibin ibinC_eq e_sbin g_sbin e_beq g_beq beqC_eq e_nilq g_nilq nilqC_sl nilqC_pt nilqC_mp e_un g_un unC_not unC_neg e_conv g_conv convC_eq e_fld g_fld fldC_ref fldC_ptr e_nilCheck g_nilCheck nilCheckC_ref nilCheckC_ptr nilCheckC_fun e_field g_field fieldC_eq e_len g_len lenC_sl lenC_str e_extract g_extract extractC_eq e_mkFunc e_build g_build e_idiv g_idiv idivC_eq e_ishift g_ishift ishiftC_eq e_idx g_idx e_idxA g_idxA e_load g_load loadC_ref loadC_ptr loadB_eq e_slc g_slc e_box boxC_loc boxC_esc e_alloc allocC_loc allocC_esc e_buildS e_store storeC_ref storeC_ptr storeB_eq e_append e_appz e_mk mkC_eq e_call callC_eq e_fn g_fn fnC_eq fnV_min' fnV_max' fnV_rune' e_q g_q e_a e_n g_call g_box g_alloc g_buildS g_store g_append g_mk g_a g_n g_dead e_dead e_callK e_drawn e_tree e_finJ e_tk e_tfin e_tno e_nbt_q e_nbt_qn e_nbt_a e_nbt_an e_nbt_fin e_early_nil e_early_t e_early_f e_nob_nil e_nob_none e_nob_some isBox_dead isBox_v isBox_ref e_dnil e_dk e_ek e_finB vcOps_vc1 e_dcons e_tq e_ekt e_tearly e_talt e_dearly look_nil look_c proj_nil proj_c looks_nil looks_c zip_nil zip_c val_tmp val_const val_func slv_v slv_box slv_ref slot_tmp slot_const slot_func slotL_v slotL_box slotL_ref put_some put_none updBox_c boxSet_box gd_eq slotVals_nil slotVals_c slotVals_b boxV_box boxOn_box slotsOn_nil slotsOn_c slotsOn_b resV_one resV_two vals_nil vals_c allOn_nil allOn_c partOn_nil partOn_c partVals_nil partVals_c fits_nil fits_c fillL_nil fillL_c mkv_one mkv_agg cellsV_agg cellsV_int cellsV_bool cellsV_slice cellsV_string cellsV_pointer cellsV_func cellsV_nilf cellsV_map one'_nil one'_c oc_int oc_bool oc_slice oc_string oc_pointer oc_func oc_nilf oc_map setC_eq iv_add iv_sub iv_mul iv_eql iv_neq iv_lss iv_leq iv_gtr iv_geq iok_add iok_sub iok_mul iok_eql iok_neq iok_lss iok_leq iok_gtr iok_geq pickV_bool args0_nil args0_c bnd_none bnd_some imp_bt imp_bf imp_ebt imp_ebf imp_eb1 imp_np imp_pp beq_tt beq_tf beq_ft beq_ff cond_or cond_and e_round e_meet Int.le_refl Int.toNat_zero decide_true decide_false Bool.or_false Bool.false_or Bool.true_or Bool.or_true Bool.and_false Bool.false_and Bool.bne_false Bool.bne_true beq_iff_eq Int.cast_ofNat_Int not_false_eq_true not_true_eq_false false_and and_false false_implies true_implies true_and and_true Bool.true_and Bool.and_true Bool.not_true Bool.not_false forall_const implies_true List.take_zero List.drop_zero List.take_succ_cons List.drop_succ_cons List.take_nil List.drop_nil List.length_cons List.length_nil List.nil_append List.append_nil List.cons_append Int.toNat_natCast decide_eq_true_eq decide_eq_false_iff_not cond_true cond_false and_self List.getElem?_cons_zero List.getElem?_cons_succ List.set_cons_zero List.set_cons_succ Option.some.injEq exists_eq_left' Nat.zero_add Nat.add_zero Nat.mul_one imp_self true_or or_true or_false false_or Bool.or_eq_true Bool.or_eq_false_iff Bool.and_eq_true Bool.and_eq_false_iff Bool.not_eq_true' Bool.not_eq_false'

theorem lead_zero (g : Gr) : leadL g 1 = [0] := by
  have h : Lead g 0 := fun b hb => by omega
  have := leadL_add (k := 0) h
  rw [this]
  rfl
theorem plain_kind (l : List Int) : kindF plainG l = 0 := by
  classical
  have h : okG qLast l plainG.rs plainG.rs.length := by
    intro i r hi hr hl j s hj hs ht hin
    match i, hi with
    | 0, _ =>
      simp [plainG] at hr
      subst hr
      match j, hj with
      | 0, _ => simp at hs; subst hs; cases ht
    | 1, _ =>
      simp [plainG] at hr
      subst hr
      match j, hj with
      | 0, _ => simp at hs; subst hs; cases ht
      | 1, _ => rfl
  rw [← kindF_eq (b := true) (c := decide (okG qFst l plainG.rs plainG.rs.length)) (by simp [h]) (by simp)]
  rfl
theorem plain_out : outL plainG 1 1 = [⟨0, compL plainG 0 1⟩] := by
  rw [outL, lead_zero]
  simp [plain_kind]
theorem outL_len {g : Gr} {n k : Nat} : (outL g n k).length = (setsL g n k).length := by simp [outL, setsL]
set_option maxHeartbeats 1000000 in
theorem law_parts {Γr : Ctx} {g : Gr} {cs : List Value} (hg : Rep.ok (lk Γr) g cs) :
    Ret Try.prog 11 [.agg cs.toArray] Γr [] (fun v Γ => Γ = [] ∧ v = .bool true) := by
  obtain ⟨A, c, rfl, hx⟩ := ok_gr hg
  generalize hR : (fun (v : Value) (Γ : Ctx) => Γ = [] ∧ v = Value.bool true) = R
  refine ret_of_vc tr11 (Nat.le_of_ble_eq_true rfl) ?_
  simp -implicitDefEqProofs only [S11, S11_0, go_sem, Nat.reduceBEq, Nat.reduceAdd, Nat.reduceSub, Nat.reduceMul, Nat.reduceLeDiff, reduceCtorEq, ↓reduceIte, Int.reduceLT, Int.reduceLE, Int.reduceEq, Int.reduceNe]
  intro b
  refine CallVC.read plain_ ?_
  rintro v Γ' ⟨g1, A1, c1, rfl, hp, rfl⟩
  simp -implicitDefEqProofs only [go_sem, Nat.reduceBEq, Nat.reduceAdd, Nat.reduceSub, Nat.reduceMul, Nat.reduceLeDiff, reduceCtorEq, ↓reduceIte, Int.reduceLT, Int.reduceLE, Int.reduceEq, Int.reduceNe]
  refine CallVC.read (co_components (g := plainG) (hp.mono (lk_sub (by simp)))) ?_
  rintro v Γ' hS
  have hck : ckF plainG = 0 := by decide
  rcases hS with ⟨h, _⟩ | ⟨_, go, gr, v', rfl, rfl, hB⟩
  · exact absurd hck h
  have hB : Bld go (lk [gr]) 91 v' [(⟨0, compL plainG 0 1⟩ : Co)] := by
    rw [← plain_out]
    exact hB
  obtain ⟨B2, d2, rfl, hs2⟩ := hB.slok (L' := lk [go, gr]) (lk_sub (by simp)) (lk_sub (by simp)) (by simp)
  obtain ⟨b2, o2, hA2, cs2, ⟨B3, d3, (rfl : _ = _), hs3⟩, hc2⟩ := hs2.get (i := 0) (by simp)
  simp -implicitDefEqProofs only [go_sem, Nat.reduceBEq, Nat.reduceAdd, Nat.reduceSub, Nat.reduceMul, Nat.reduceLeDiff, reduceCtorEq, ↓reduceIte, Int.reduceLT, Int.reduceLE, Int.reduceEq, Int.reduceNe]
  refine s_idxg (fun he => ⟨by simp, by simp, hA2, by omega, by simp⟩) ?_
  simp -implicitDefEqProofs only [go_sem, Nat.reduceBEq, Nat.reduceAdd, Nat.reduceSub, Nat.reduceMul, Nat.reduceLeDiff, reduceCtorEq, ↓reduceIte, Int.reduceLT, Int.reduceLE, Int.reduceEq, Int.reduceNe]
  refine s_ldg0 (fun he => by simp) (fun _ => hc2 _ (lk_sub (by simp))) (by simp) (by simp) ?_
  simp -implicitDefEqProofs only [go_sem, Nat.reduceBEq, Nat.reduceAdd, Nat.reduceSub, Nat.reduceMul, Nat.reduceLeDiff, reduceCtorEq, ↓reduceIte, Int.reduceLT, Int.reduceLE, Int.reduceEq, Int.reduceNe]
  refine ⟨fun h => absurd rfl h, fun _ => ?_⟩
  refine CallVC.read (co_components (g := g) (hx.mono (lk_r _ _))) ?_
  rintro v Γ' hS
  rcases hS with ⟨hk, rfl, rfl⟩ | ⟨hk, go2, gr2, v2, rfl, rfl, hB2⟩
  · simp -implicitDefEqProofs only [go_sem, Nat.reduceBEq, Nat.reduceAdd, Nat.reduceSub, Nat.reduceMul, Nat.reduceLeDiff, reduceCtorEq, ↓reduceIte, Int.reduceLT, Int.reduceLE, Int.reduceEq, Int.reduceNe]
    refine CallVC.read (rule_fault (g := g) (hx.mono (lk_r _ _))) ?_
    rintro v Γ' ⟨rfl, rfl⟩
    simp -implicitDefEqProofs only [go_sem, Nat.reduceBEq, Nat.reduceAdd, Nat.reduceSub, Nat.reduceMul, Nat.reduceLeDiff, reduceCtorEq, ↓reduceIte, Int.reduceLT, Int.reduceLE, Int.reduceEq, Int.reduceNe]
    refine ⟨fun _ => Up.to [] (Ent.nil _) ?_, fun h => absurd h hk⟩
    subst hR
    simp
  have V := ckF_ok hk
  have hns := V.ns
  obtain ⟨n, hn⟩ : ∃ n : Nat, g.ns = n := ⟨g.ns.toNat, by omega⟩
  rw [show g.ns.toNat = n by omega] at hB2
  have hlo : (outL g n n).length ≤ n := by unfold outL; rw [List.length_map]; exact leadL_len
  obtain ⟨B4, d4, rfl, hs4⟩ := hB2.slok (L' := lk [go2, gr2]) (lk_sub (by simp)) (lk_sub (by simp)) (by omega)
  simp -implicitDefEqProofs only [go_sem, Nat.reduceBEq, Nat.reduceAdd, Nat.reduceSub, Nat.reduceMul, Nat.reduceLeDiff, reduceCtorEq, ↓reduceIte, Int.reduceLT, Int.reduceLE, Int.reduceEq, Int.reduceNe]
  refine CallVC.read (rule_fault (g := g) (hx.mono (lk_r _ _))) ?_
  rintro v Γ' ⟨rfl, rfl⟩
  simp -implicitDefEqProofs only [go_sem, Nat.reduceBEq, Nat.reduceAdd, Nat.reduceSub, Nat.reduceMul, Nat.reduceLeDiff, reduceCtorEq, ↓reduceIte, Int.reduceLT, Int.reduceLE, Int.reduceEq, Int.reduceNe]
  refine ⟨fun h => absurd hk h, fun _ => ?_⟩
  refine CallVC.read (ref_groups (g := g) (hx.mono (lk_r _ _)) V) ?_
  rintro v Γ' ⟨gs, gl, gk, v1, v2, rfl, rfl, hBs, hBk⟩
  rw [show g.ns.toNat = n by omega] at hBs hBk
  have hse := outL_len (g := g) (n := n) (k := n)
  have hke : (outL g n n).length = (kindsL g n n).length := by simp [outL, kindsL]
  obtain ⟨B5, d5, rfl, hs5⟩ := hBs.slok (L' := lk [gs, gl]) (lk_sub (by simp)) (lk_sub (by simp)) (by omega)
  obtain ⟨B6, d6, rfl, hs6⟩ := hBk.slok (L' := lk [gk]) (lk_sub (by simp)) (lk_sub (by simp)) (by omega)
  simp -implicitDefEqProofs only [go_sem, Nat.reduceBEq, Nat.reduceAdd, Nat.reduceSub, Nat.reduceMul, Nat.reduceLeDiff, reduceCtorEq, ↓reduceIte, Int.reduceLT, Int.reduceLE, Int.reduceEq, Int.reduceNe]
  refine ⟨fun h => absurd (by omega) h, fun _ => ?_⟩
  refine s_loop (fun f vs Γ => Γ = [gs, gl, gk, go2, gr2, go, gr, g1] ∧ ∃ k : Nat, vs = [.v true (.int .i64 k)] ∧ k + f = (outL g n n).length) (outL g n n).length (Up.here ⟨rfl, 0, rfl, by omega⟩) ?_
  rintro f vs Γ ⟨rfl, k, rfl, hkf⟩
  simp -implicitDefEqProofs only [S11_1, go_sem, Nat.reduceBEq, Nat.reduceAdd, Nat.reduceSub, Nat.reduceMul, Nat.reduceLeDiff, reduceCtorEq, ↓reduceIte, Int.reduceLT, Int.reduceLE, Int.reduceEq, Int.reduceNe]
  refine ⟨fun hlt => ?_, fun hge => ?_⟩
  · have hk : k < (outL g n n).length := by omega
    have hks : k < (setsL g n n).length := by omega
    have hkk : k < (kindsL g n n).length := by omega
    have e1 : (outL g n n)[k].k = (kindsL g n n)[k] := by simp [outL, kindsL]
    have e2 : (outL g n n)[k].l = (setsL g n n)[k] := by simp [outL, setsL]
    obtain ⟨b4, o4, hA4, cs4, ⟨B7, d7, (rfl : _ = _), hs7⟩, hc4⟩ := hs4.get hk
    obtain ⟨b6, o6, hA6, hc6⟩ := hs6.int hkk
    obtain ⟨b5, o5, hA5, B8, d8, hs8, hc5⟩ := hs5.list hks
    rw [e1, e2] at hc4
    rw [e2] at hs7
    generalize (kindsL g n n)[k] = ki at *
    generalize (setsL g n n)[k] = se at *
    refine s_idx hA4 (by omega) (by omega) ?_
    simp -implicitDefEqProofs only [go_sem, Nat.reduceBEq, Nat.reduceAdd, Nat.reduceSub, Nat.reduceMul, Nat.reduceLeDiff, reduceCtorEq, ↓reduceIte, Int.reduceLT, Int.reduceLE, Int.reduceEq, Int.reduceNe]
    refine s_ld0 (hc4 _ (lk_sub (by simp))) (by simp) (by simp) ?_
    simp -implicitDefEqProofs only [go_sem, Nat.reduceBEq, Nat.reduceAdd, Nat.reduceSub, Nat.reduceMul, Nat.reduceLeDiff, reduceCtorEq, ↓reduceIte, Int.reduceLT, Int.reduceLE, Int.reduceEq, Int.reduceNe]
    intro b7
    refine s_idx hA6 (by omega) (by omega) ?_
    simp -implicitDefEqProofs only [go_sem, Nat.reduceBEq, Nat.reduceAdd, Nat.reduceSub, Nat.reduceMul, Nat.reduceLeDiff, reduceCtorEq, ↓reduceIte, Int.reduceLT, Int.reduceLE, Int.reduceEq, Int.reduceNe]
    refine s_ld0 (hc6 _ (lk_sub (by simp))) (by simp) (by simp) ?_
    simp -implicitDefEqProofs only [go_sem, Nat.reduceBEq, Nat.reduceAdd, Nat.reduceSub, Nat.reduceMul, Nat.reduceLeDiff, reduceCtorEq, ↓reduceIte, Int.reduceLT, Int.reduceLE, Int.reduceEq, Int.reduceNe]
    refine s_idx hA5 (by omega) (by omega) ?_
    simp -implicitDefEqProofs only [go_sem, Nat.reduceBEq, Nat.reduceAdd, Nat.reduceSub, Nat.reduceMul, Nat.reduceLeDiff, reduceCtorEq, ↓reduceIte, Int.reduceLT, Int.reduceLE, Int.reduceEq, Int.reduceNe]
    refine s_ld0 (hc5 _ (lk_sub (by simp))) (by simp) (by simp) ?_
    simp -implicitDefEqProofs only [go_sem, Nat.reduceBEq, Nat.reduceAdd, Nat.reduceSub, Nat.reduceMul, Nat.reduceLeDiff, reduceCtorEq, ↓reduceIte, Int.reduceLT, Int.reduceLE, Int.reduceEq, Int.reduceNe]
    refine CallVC.read (slices_equal (hs7.mono (lk_sub (by simp))) (hs8.mono (lk_sub (by simp)))) ?_
    rintro v Γ' ⟨rfl, rfl⟩
    simp only [decide_true]
    simp -implicitDefEqProofs only [go_sem, Nat.reduceBEq, Nat.reduceAdd, Nat.reduceSub, Nat.reduceMul, Nat.reduceLeDiff, reduceCtorEq, ↓reduceIte, Int.reduceLT, Int.reduceLE, Int.reduceEq, Int.reduceNe]
    simp (disch := omega) only [wrap_id]
    exact ⟨f - 1, by omega, Up.here ⟨rfl, k + 1, rfl, by omega⟩⟩
  · refine Up.to [] (Ent.nil _) ?_
    subst hR
    exact ⟨rfl, rfl⟩
end Go.Proofs.Ytniobbepliknmaa.V
