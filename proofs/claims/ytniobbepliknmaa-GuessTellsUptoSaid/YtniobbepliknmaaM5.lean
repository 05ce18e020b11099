/- Texts put together, in the order in which they build; each says what it proves; no condition. -/
import Derived.Test.YtniobbepliknmaaM2
import Derived.Test.YtniobbepliknmaaProg
import Derived.Test.YtniobbepliknmaaM3
import Derived.Test.YtniobbepliknmaaM4
import Derived.Maps.RangeRun
import Derived.Laws.BytesArg
/- The text of slices.Compare[[]int,int] as a statement (slots: 0 s1, 1 s2, 2 s1, 3 s2, 5 i, 6 v1, 7 v2, 8 c); no condition. -/
namespace Go.Proofs.Ytniobbepliknmaa.V
open Go
def S26_1 : Stmt :=
  Stmt.seq
  (Stmt.region [SOper.mk (some 12) none (SOp.ibin BinOp.lss (Operand.tmp 11) (Operand.tmp 10))] [0, 1, 9, 10, 11, 12])
  (Stmt.seq (Stmt.cond (Operand.tmp 12) Stmt.skip (Stmt.exit 0))
    (Stmt.seq
      (Stmt.block 1
        (Stmt.seq
          (Stmt.region
            [SOper.mk (some 13) none (SOp.mv (Operand.tmp 11)),
              SOper.mk (some 14) none (SOp.idx 1 (Operand.tmp 9) (Operand.tmp 11)),
              SOper.mk (some 15) none (SOp.load false 1 (Operand.tmp 14)),
              SOper.mk (some 5) none (SOp.mv (Operand.tmp 13)), SOper.mk (some 6) none (SOp.mv (Operand.tmp 15))]
            [0, 1, 5, 6, 9, 10, 11])
          (Stmt.seq
            (Stmt.seq
              (Stmt.region
                [SOper.mk (some 16) none (SOp.mv (Operand.tmp 5)), SOper.mk (some 17) none (SOp.mv (Operand.tmp 1)),
                  SOper.mk (some 18) none (SOp.len false (Operand.tmp 17)),
                  SOper.mk (some 19) none (SOp.ibin BinOp.geq (Operand.tmp 16) (Operand.tmp 18))]
                [0, 1, 5, 6, 9, 10, 11, 19])
              (Stmt.cond (Operand.tmp 19)
                (Stmt.seq (Stmt.region [SOper.mk (some 4) none (SOp.mv (Operand.const (Value.int IntKind.i64 1)))] [4])
                  Stmt.ret)
                Stmt.skip))
            (Stmt.seq
              (Stmt.region
                [SOper.mk (some 20) none (SOp.mv (Operand.tmp 1)), SOper.mk (some 21) none (SOp.mv (Operand.tmp 5)),
                  SOper.mk (some 22) none (SOp.idx 1 (Operand.tmp 20) (Operand.tmp 21)),
                  SOper.mk (some 23) none (SOp.load false 1 (Operand.tmp 22)),
                  SOper.mk (some 7) none (SOp.mv (Operand.tmp 23))]
                [0, 1, 6, 7, 9, 10, 11])
              (Stmt.seq
                (Stmt.region
                  [SOper.mk (some 24) none (SOp.mv (Operand.tmp 6)), SOper.mk (some 25) none (SOp.mv (Operand.tmp 7)),
                    SOper.mk (some 26) none (SOp.call (Operand.func 105) [Operand.tmp 24, Operand.tmp 25]),
                    SOper.mk (some 8) none (SOp.mv (Operand.tmp 26))]
                  [0, 1, 8, 9, 10, 11])
                (Stmt.seq
                  (Stmt.region
                    [SOper.mk (some 27) none (SOp.mv (Operand.tmp 8)),
                      SOper.mk (some 28) none
                        (SOp.ibin BinOp.neq (Operand.tmp 27) (Operand.const (Value.int IntKind.i64 0)))]
                    [0, 1, 8, 9, 10, 11, 28])
                  (Stmt.cond (Operand.tmp 28)
                    (Stmt.seq
                      (Stmt.region
                        [SOper.mk (some 29) none (SOp.mv (Operand.tmp 8)),
                          SOper.mk (some 4) none (SOp.mv (Operand.tmp 29))]
                        [4])
                      Stmt.ret)
                    Stmt.skip)))))))
      (Stmt.region
        [SOper.mk (some 30) none (SOp.ibin BinOp.add (Operand.tmp 11) (Operand.const (Value.int IntKind.i64 1))),
          SOper.mk (some 11) none (SOp.mv (Operand.tmp 30))]
        [0, 1, 9, 10, 11])))
def S26_0 : Stmt :=
  Stmt.seq (Stmt.region [SOper.mk (some 4) none (SOp.mv (Operand.const (Value.int IntKind.i64 0)))] [0, 1])
  (Stmt.seq
    (Stmt.seq
      (Stmt.region
        [SOper.mk (some 9) none (SOp.mv (Operand.tmp 0)), SOper.mk (some 10) none (SOp.len false (Operand.tmp 9)),
          SOper.mk (some 11) none (SOp.mv (Operand.const (Value.int IntKind.i64 0)))]
        [0, 1, 9, 10, 11])
      (Stmt.block 0 (Stmt.loop S26_1 [11] [0, 1, 9, 10])))
    (Stmt.seq
      (Stmt.seq
        (Stmt.region
          [SOper.mk (some 31) none (SOp.mv (Operand.tmp 0)), SOper.mk (some 32) none (SOp.len false (Operand.tmp 31)),
            SOper.mk (some 33) none (SOp.mv (Operand.tmp 1)), SOper.mk (some 34) none (SOp.len false (Operand.tmp 33)),
            SOper.mk (some 35) none (SOp.ibin BinOp.lss (Operand.tmp 32) (Operand.tmp 34))]
          [35])
        (Stmt.cond (Operand.tmp 35)
          (Stmt.seq (Stmt.region [SOper.mk (some 4) none (SOp.mv (Operand.const (Value.int IntKind.i64 (-1))))] [4])
            Stmt.ret)
          Stmt.skip))
      (Stmt.seq (Stmt.region [SOper.mk (some 4) none (SOp.mv (Operand.const (Value.int IntKind.i64 0)))] [4])
        Stmt.ret)))
def S26 : FnS := ⟨36, [(4, none)], S26_0⟩
theorem tr26 : trFn Try.prog 26 [] [[0, 1], [0, 1, 9, 10, 11], [11], [0, 1, 9, 10], [0, 1, 9, 10, 11, 12], [0, 1, 5, 6, 9, 10, 11], [0, 1, 5, 6, 9, 10, 11, 19], [4], [0, 1, 6, 7, 9, 10, 11], [0, 1, 8, 9, 10, 11], [0, 1, 8, 9, 10, 11, 28], [4], [0, 1, 9, 10, 11], [35], [4], [4]] = some S26 := by kernel_rfl
end Go.Proofs.Ytniobbepliknmaa.V
/- The text of cmp.isNaN[int] as a statement (slots: 0 x, 1 x); no condition. -/
namespace Go.Proofs.Ytniobbepliknmaa.V
open Go
def S170_0 : Stmt :=
  Stmt.seq (Stmt.region [SOper.mk (some 2) none (SOp.mv (Operand.const (Value.bool false)))] [0])
  (Stmt.seq
    (Stmt.region
      [SOper.mk (some 3) none (SOp.mv (Operand.tmp 0)), SOper.mk (some 4) none (SOp.mv (Operand.tmp 0)),
        SOper.mk (some 5) none (SOp.ibin BinOp.neq (Operand.tmp 3) (Operand.tmp 4)),
        SOper.mk (some 2) none (SOp.mv (Operand.tmp 5))]
      [2])
    Stmt.ret)
def S170 : FnS := ⟨6, [(2, none)], S170_0⟩
theorem tr170 : trFn Try.prog 170 [] [[0], [2]] = some S170 := by kernel_rfl
end Go.Proofs.Ytniobbepliknmaa.V
/- cmp.Compare and slices.Compare of whole numbers walked; no condition. -/
namespace Go.Proofs.Ytniobbepliknmaa.V
open Go
set_option linter.unusedVariables false
set_option linter.unusedSimpArgs false
attribute [local go_sem] e_seq e_region e_quiet e_join e_loop e_cond e_block e_exit e_ret e_skip e_fin e_kseq e_snrm e_sret e_sex e_bnrm e_bret e_bex e_rnrm e_rret e_res e_condC e_nil e_g e_mv g_mv e_pick g_pick pickC_eq e_ibin g_ibin ibinC_eq e_sbin g_sbin e_beq g_beq beqC_eq e_nilq g_nilq nilqC_sl nilqC_pt nilqC_mp e_un g_un unC_not unC_neg e_conv g_conv convC_eq e_fld g_fld fldC_ref fldC_ptr e_nilCheck g_nilCheck nilCheckC_ref nilCheckC_ptr nilCheckC_fun e_field g_field fieldC_eq e_len g_len lenC_sl lenC_str e_extract g_extract extractC_eq e_mkFunc e_build g_build e_idiv g_idiv idivC_eq e_ishift g_ishift ishiftC_eq e_idx g_idx e_idxA g_idxA e_load g_load loadC_ref loadC_ptr loadB_eq e_slc g_slc e_box boxC_loc boxC_esc e_alloc allocC_loc allocC_esc e_buildS e_store storeC_ref storeC_ptr storeB_eq e_append e_appz e_mk mkC_eq e_call callC_eq e_fn g_fn fnC_eq fnV_min' fnV_max' fnV_rune' e_q g_q e_a e_n g_call g_box g_alloc g_buildS g_store g_append g_mk g_a g_n g_dead e_dead e_callK e_drawn e_tree e_finJ e_tk e_tfin e_tno e_nbt_q e_nbt_qn e_nbt_a e_nbt_an e_nbt_fin e_early_nil e_early_t e_early_f e_nob_nil e_nob_none e_nob_some isBox_dead isBox_v isBox_ref e_dnil e_dk e_ek e_finB vcOps_vc1 e_dcons e_tq e_ekt e_tearly e_talt e_dearly look_nil look_c proj_nil proj_c looks_nil looks_c zip_nil zip_c val_tmp val_const val_func slv_v slv_box slv_ref slot_tmp slot_const slot_func slotL_v slotL_box slotL_ref put_some put_none updBox_c boxSet_box gd_eq slotVals_nil slotVals_c slotVals_b boxV_box boxOn_box slotsOn_nil slotsOn_c slotsOn_b resV_one resV_two vals_nil vals_c allOn_nil allOn_c partOn_nil partOn_c partVals_nil partVals_c fits_nil fits_c fillL_nil fillL_c mkv_one mkv_agg cellsV_agg cellsV_int cellsV_bool cellsV_slice cellsV_string cellsV_pointer cellsV_func cellsV_nilf cellsV_map one'_nil one'_c oc_int oc_bool oc_slice oc_string oc_pointer oc_func oc_nilf oc_map setC_eq iv_add iv_sub iv_mul iv_eql iv_neq iv_lss iv_leq iv_gtr iv_geq iok_add iok_sub iok_mul iok_eql iok_neq iok_lss iok_leq iok_gtr iok_geq pickV_bool args0_nil args0_c bnd_none bnd_some imp_bt imp_bf imp_ebt imp_ebf imp_eb1 imp_np imp_pp beq_tt beq_tf beq_ft beq_ff cond_or cond_and e_round e_meet Int.le_refl Int.toNat_zero decide_true decide_false Bool.or_false Bool.false_or Bool.true_or Bool.or_true Bool.and_false Bool.false_and Bool.bne_false Bool.bne_true beq_iff_eq Int.cast_ofNat_Int not_false_eq_true not_true_eq_false false_and and_false false_implies true_implies true_and and_true Bool.true_and Bool.and_true Bool.not_true Bool.not_false forall_const implies_true List.take_zero List.drop_zero List.take_succ_cons List.drop_succ_cons List.take_nil List.drop_nil List.length_cons List.length_nil List.nil_append List.append_nil List.cons_append Int.toNat_natCast decide_eq_true_eq decide_eq_false_iff_not cond_true cond_false and_self List.getElem?_cons_zero List.getElem?_cons_succ List.set_cons_zero List.set_cons_succ Option.some.injEq exists_eq_left' Nat.zero_add Nat.add_zero Nat.mul_one imp_self true_or or_true or_false false_or Bool.or_eq_true Bool.or_eq_false_iff Bool.and_eq_true Bool.and_eq_false_iff Bool.not_eq_true' Bool.not_eq_false'

def cmpI (a b : Int) : Int := if a < b then -1 else if b < a then 1 else 0
def cmpL : List Int → List Int → Int
  | [], [] => 0
  | [], _ :: _ => -1
  | _ :: _, [] => 1
  | a :: r, b :: s => if cmpI a b = 0 then cmpL r s else cmpI a b

theorem is_nan {Γr : Ctx} (a : Int) : Ret Try.prog 170 [.int .i64 a] Γr [] (fun v Γ => Γ = [] ∧ v = .bool false) := by
  generalize hR : (fun (v : Value) (Γ : Ctx) => Γ = [] ∧ _) = R
  refine ret_of_vc tr170 (Nat.le_of_ble_eq_true rfl) ?_
  simp only [S170, S170_0, go_sem, Nat.reduceBEq, Nat.reduceAdd, Nat.reduceSub, Nat.reduceMul, Nat.reduceLeDiff, reduceCtorEq, ↓reduceIte, Int.reduceLT, Int.reduceLE, Int.reduceEq, Int.reduceNe]
  refine Up.here ?_
  subst hR
  exact ⟨rfl, by simp⟩
theorem cmp_compare {Γr : Ctx} (a b : Int) : Ret Try.prog 105 [.int .i64 a, .int .i64 b] Γr [] (fun v Γ => Γ = [] ∧ v = .int .i64 (cmpI a b)) := by
  generalize hR : (fun (v : Value) (Γ : Ctx) => Γ = [] ∧ _) = R
  refine ret_of_vc tr105 (Nat.le_of_ble_eq_true rfl) ?_
  simp only [S105, S105_0, go_sem, Nat.reduceBEq, Nat.reduceAdd, Nat.reduceSub, Nat.reduceMul, Nat.reduceLeDiff, reduceCtorEq, ↓reduceIte, Int.reduceLT, Int.reduceLE, Int.reduceEq, Int.reduceNe]
  refine CallVC.read (is_nan a) ?_
  rintro v Γ' ⟨rfl, rfl⟩
  simp only [go_sem, Nat.reduceBEq, Nat.reduceAdd, Nat.reduceSub, Nat.reduceMul, Nat.reduceLeDiff, reduceCtorEq, ↓reduceIte, Int.reduceLT, Int.reduceLE, Int.reduceEq, Int.reduceNe]
  refine CallVC.read (is_nan b) ?_
  rintro v Γ' ⟨rfl, rfl⟩
  simp only [go_sem, Nat.reduceBEq, Nat.reduceAdd, Nat.reduceSub, Nat.reduceMul, Nat.reduceLeDiff, reduceCtorEq, ↓reduceIte, Int.reduceLT, Int.reduceLE, Int.reduceEq, Int.reduceNe]
  subst hR
  refine ⟨fun h => Up.here ⟨rfl, ?_⟩, fun h => ⟨fun h' => Up.here ⟨rfl, ?_⟩, fun h' => Up.here ⟨rfl, ?_⟩⟩⟩
  · simp [cmpI, h]
  · simp [cmpI, h, h']
  · simp [cmpI, h, h']

theorem slices_compare {Γr : Ctx} {A B : Option Addr} {c d : Nat} {xs ys : List Int} (hx : SlOk (lk Γr) A c xs) (hy : SlOk (lk Γr) B d ys) :
    Ret Try.prog 26 [.slice A xs.length c, .slice B ys.length d] Γr [] (fun v Γ => Γ = [] ∧ v = .int .i64 (cmpL xs ys)) := by
  generalize hR : (fun (v : Value) (Γ : Ctx) => Γ = [] ∧ _) = R
  refine ret_of_vc tr26 (Nat.le_of_ble_eq_true rfl) ?_
  have h1 := hx.short
  have h2 := hy.short
  simp only [S26, S26_0, go_sem, Nat.reduceBEq, Nat.reduceAdd, Nat.reduceSub, Nat.reduceMul, Nat.reduceLeDiff, reduceCtorEq, ↓reduceIte, Int.reduceLT, Int.reduceLE, Int.reduceEq, Int.reduceNe]
  refine s_loop (fun f vs Γ => Γ = [] ∧ ∃ k : Nat, vs = [.v true (.int .i64 k)] ∧ k + f = xs.length ∧ k ≤ ys.length ∧ cmpL xs ys = cmpL (xs.drop k) (ys.drop k)) xs.length (Up.here ⟨rfl, 0, rfl, by omega, by omega, by simp⟩) ?_
  rintro f vs Γ ⟨rfl, k, rfl, hkf, hky, he⟩
  simp only [S26_1, go_sem, Nat.reduceBEq, Nat.reduceAdd, Nat.reduceSub, Nat.reduceMul, Nat.reduceLeDiff, reduceCtorEq, ↓reduceIte, Int.reduceLT, Int.reduceLE, Int.reduceEq, Int.reduceNe]
  refine ⟨fun hlt => ?_, fun hge => ?_⟩
  · have hk : k < xs.length := by omega
    obtain ⟨b, o, hA, hc1⟩ := hx.int hk
    refine s_idx hA (by omega) (by omega) ?_
    simp only [go_sem, Nat.reduceBEq, Nat.reduceAdd, Nat.reduceSub, Nat.reduceMul, Nat.reduceLeDiff, reduceCtorEq, ↓reduceIte, Int.reduceLT, Int.reduceLE, Int.reduceEq, Int.reduceNe]
    refine s_ld0 (hc1 _ (Mem.le.refl _)) (by simp) (by simp) ?_
    simp only [go_sem, Nat.reduceBEq, Nat.reduceAdd, Nat.reduceSub, Nat.reduceMul, Nat.reduceLeDiff, reduceCtorEq, ↓reduceIte, Int.reduceLT, Int.reduceLE, Int.reduceEq, Int.reduceNe]
    rw [List.drop_eq_getElem_cons hk] at he
    refine ⟨fun hle => Up.here ?_, fun hlt2 => ?_⟩
    · have : ys.drop k = [] := List.drop_eq_nil_of_le (by omega)
      subst hR
      refine ⟨rfl, ?_⟩
      rw [he, this]
      rfl
    · have hk' : k < ys.length := by omega
      obtain ⟨b', o', hB, hc2⟩ := hy.int hk'
      refine s_idx hB (by omega) (by omega) ?_
      simp only [go_sem, Nat.reduceBEq, Nat.reduceAdd, Nat.reduceSub, Nat.reduceMul, Nat.reduceLeDiff, reduceCtorEq, ↓reduceIte, Int.reduceLT, Int.reduceLE, Int.reduceEq, Int.reduceNe]
      refine s_ld0 (hc2 _ (Mem.le.refl _)) (by simp) (by simp) ?_
      simp only [go_sem, Nat.reduceBEq, Nat.reduceAdd, Nat.reduceSub, Nat.reduceMul, Nat.reduceLeDiff, reduceCtorEq, ↓reduceIte, Int.reduceLT, Int.reduceLE, Int.reduceEq, Int.reduceNe]
      refine CallVC.read (cmp_compare _ _) ?_
      rintro v Γ' ⟨rfl, rfl⟩
      rw [List.drop_eq_getElem_cons hk', cmpL] at he
      simp only [go_sem, Nat.reduceBEq, Nat.reduceAdd, Nat.reduceSub, Nat.reduceMul, Nat.reduceLeDiff, reduceCtorEq, ↓reduceIte, Int.reduceLT, Int.reduceLE, Int.reduceEq, Int.reduceNe]
      refine ⟨fun hne => Up.here ?_, fun heq => ?_⟩
      · rw [if_neg hne] at he
        subst hR
        exact ⟨rfl, by rw [he]⟩
      · rw [if_pos heq] at he
        simp (disch := omega) only [wrap_id]
        exact ⟨f - 1, by omega, Up.here ⟨rfl, k + 1, rfl, by omega, by omega, he⟩⟩
  · have hk : k = xs.length := by omega
    rw [hk, List.drop_length] at he
    subst hR
    refine ⟨fun h => Up.here ⟨rfl, ?_⟩, fun h => Up.here ⟨rfl, ?_⟩⟩
    · rw [he, List.drop_eq_getElem_cons (by omega)]
      rfl
    · rw [he, List.drop_eq_nil_of_le (by omega)]
      rfl
end Go.Proofs.Ytniobbepliknmaa.V
/- The text of parlance/gram.Order as a statement (slots: 0 a, 1 b, 2 a, 3 b); no condition. -/
namespace Go.Proofs.Ytniobbepliknmaa.V
open Go
def S203_0 : Stmt :=
  Stmt.seq
  (Stmt.region
    [SOper.mk (some 2) none (SOp.box true 39 (Operand.tmp 0)), SOper.mk (some 3) none (SOp.box true 39 (Operand.tmp 1)),
      SOper.mk (some 4) none (SOp.mv (Operand.const (Value.int IntKind.i64 0)))]
    [2, 3])
  (Stmt.seq
    (Stmt.block 0
      (Stmt.seq
        (Stmt.region
          [SOper.mk (some 6) none (SOp.fld 0 (Operand.tmp 2)),
            SOper.mk (some 7) none (SOp.load false 1 (Operand.tmp 6)), SOper.mk (some 8) none (SOp.mv (Operand.tmp 7)),
            SOper.mk (some 9) (some (8, true)) (SOp.fld 0 (Operand.tmp 3)),
            SOper.mk (some 10) (some (8, true)) (SOp.load false 1 (Operand.tmp 9)),
            SOper.mk (some 11) (some (8, true)) (SOp.un UnOp.not (Operand.tmp 10)),
            SOper.mk (some 12) none (SOp.pick (Operand.tmp 8) (Operand.tmp 11) (Operand.const (Value.bool false))),
            SOper.mk (some 5) none (SOp.mv (Operand.tmp 12))]
          [2, 3, 5])
        (Stmt.cond (Operand.tmp 5)
          (Stmt.seq (Stmt.region [SOper.mk (some 4) none (SOp.mv (Operand.const (Value.int IntKind.i64 (-1))))] [4])
            Stmt.ret)
          (Stmt.seq
            (Stmt.region
              [SOper.mk (some 14) none (SOp.fld 0 (Operand.tmp 2)),
                SOper.mk (some 15) none (SOp.load false 1 (Operand.tmp 14)),
                SOper.mk (some 16) none (SOp.un UnOp.not (Operand.tmp 15)),
                SOper.mk (some 17) none (SOp.mv (Operand.tmp 16)),
                SOper.mk (some 18) (some (17, true)) (SOp.fld 0 (Operand.tmp 3)),
                SOper.mk (some 19) (some (17, true)) (SOp.load false 1 (Operand.tmp 18)),
                SOper.mk (some 20) none (SOp.pick (Operand.tmp 17) (Operand.tmp 19) (Operand.const (Value.bool false))),
                SOper.mk (some 13) none (SOp.mv (Operand.tmp 20))]
              [2, 3, 13])
            (Stmt.cond (Operand.tmp 13)
              (Stmt.seq (Stmt.region [SOper.mk (some 4) none (SOp.mv (Operand.const (Value.int IntKind.i64 1)))] [4])
                Stmt.ret)
              Stmt.skip)))))
    (Stmt.seq
      (Stmt.region
        [SOper.mk (some 21) none (SOp.fld 1 (Operand.tmp 2)),
          SOper.mk (some 22) none (SOp.load false 1 (Operand.tmp 21)),
          SOper.mk (some 23) none (SOp.fld 1 (Operand.tmp 3)),
          SOper.mk (some 24) none (SOp.load false 1 (Operand.tmp 23)),
          SOper.mk (some 25) none (SOp.call (Operand.func 105) [Operand.tmp 22, Operand.tmp 24]),
          SOper.mk (some 4) none (SOp.mv (Operand.tmp 25))]
        [4])
      Stmt.ret))
def S203 : FnS := ⟨26, [(4, none)], S203_0⟩
theorem tr203 : trFn Try.prog 203 [2, 3] [[2, 3], [2, 3, 5], [4], [2, 3, 13], [4], [4]] = some S203 := by kernel_rfl
end Go.Proofs.Ytniobbepliknmaa.V
/- The text of slices.CompareFunc[[]parlance/api.Sym,[]parlance/api.Sym,parlance/api.Sym,parlance/api.Sym] as a statement (slots: 0 s1, 1 s2, 2 cmp, 3 s1, 4 s2, 5 cmp, 7 i, 8 v1, 9 v2, 10 c); no condition. -/
namespace Go.Proofs.Ytniobbepliknmaa.V
open Go
def S202_1 : Stmt :=
  Stmt.seq
  (Stmt.region [SOper.mk (some 14) none (SOp.ibin BinOp.lss (Operand.tmp 13) (Operand.tmp 12))]
    [0, 1, 2, 11, 12, 13, 14])
  (Stmt.seq (Stmt.cond (Operand.tmp 14) Stmt.skip (Stmt.exit 0))
    (Stmt.seq
      (Stmt.block 1
        (Stmt.seq
          (Stmt.region
            [SOper.mk (some 15) none (SOp.mv (Operand.tmp 13)),
              SOper.mk (some 16) none (SOp.idx 2 (Operand.tmp 11) (Operand.tmp 13)),
              SOper.mk (some 17) none (SOp.load true 2 (Operand.tmp 16)),
              SOper.mk (some 8) none
                (SOp.alloc true 39 (Value.agg (Array.mk [Value.bool false, Value.int IntKind.i64 0]))),
              SOper.mk (some 7) none (SOp.mv (Operand.tmp 15)),
              SOper.mk none none (SOp.store 2 (Operand.tmp 8) (Operand.tmp 17))]
            [0, 1, 2, 7, 8, 11, 12, 13])
          (Stmt.seq
            (Stmt.seq
              (Stmt.region
                [SOper.mk (some 18) none (SOp.mv (Operand.tmp 7)), SOper.mk (some 19) none (SOp.mv (Operand.tmp 1)),
                  SOper.mk (some 20) none (SOp.len false (Operand.tmp 19)),
                  SOper.mk (some 21) none (SOp.ibin BinOp.geq (Operand.tmp 18) (Operand.tmp 20))]
                [0, 1, 2, 7, 8, 11, 12, 13, 21])
              (Stmt.cond (Operand.tmp 21)
                (Stmt.seq (Stmt.region [SOper.mk (some 6) none (SOp.mv (Operand.const (Value.int IntKind.i64 1)))] [6])
                  Stmt.ret)
                Stmt.skip))
            (Stmt.seq
              (Stmt.region
                [SOper.mk (some 22) none (SOp.mv (Operand.tmp 1)), SOper.mk (some 23) none (SOp.mv (Operand.tmp 7)),
                  SOper.mk (some 24) none (SOp.idx 2 (Operand.tmp 22) (Operand.tmp 23)),
                  SOper.mk (some 25) none (SOp.load true 2 (Operand.tmp 24)),
                  SOper.mk (some 9) none
                    (SOp.alloc true 39 (Value.agg (Array.mk [Value.bool false, Value.int IntKind.i64 0]))),
                  SOper.mk none none (SOp.store 2 (Operand.tmp 9) (Operand.tmp 25))]
                [0, 1, 2, 8, 9, 11, 12, 13])
              (Stmt.seq
                (Stmt.region
                  [SOper.mk (some 26) none (SOp.mv (Operand.tmp 2)),
                    SOper.mk (some 27) none (SOp.load true 2 (Operand.tmp 8)),
                    SOper.mk (some 28) none (SOp.load true 2 (Operand.tmp 9)),
                    SOper.mk (some 29) none (SOp.call (Operand.tmp 26) [Operand.tmp 27, Operand.tmp 28]),
                    SOper.mk (some 10) none (SOp.mv (Operand.tmp 29))]
                  [0, 1, 2, 10, 11, 12, 13])
                (Stmt.seq
                  (Stmt.region
                    [SOper.mk (some 30) none (SOp.mv (Operand.tmp 10)),
                      SOper.mk (some 31) none
                        (SOp.ibin BinOp.neq (Operand.tmp 30) (Operand.const (Value.int IntKind.i64 0)))]
                    [0, 1, 2, 10, 11, 12, 13, 31])
                  (Stmt.cond (Operand.tmp 31)
                    (Stmt.seq
                      (Stmt.region
                        [SOper.mk (some 32) none (SOp.mv (Operand.tmp 10)),
                          SOper.mk (some 6) none (SOp.mv (Operand.tmp 32))]
                        [6])
                      Stmt.ret)
                    Stmt.skip)))))))
      (Stmt.region
        [SOper.mk (some 33) none (SOp.ibin BinOp.add (Operand.tmp 13) (Operand.const (Value.int IntKind.i64 1))),
          SOper.mk (some 13) none (SOp.mv (Operand.tmp 33))]
        [0, 1, 2, 11, 12, 13])))
def S202_0 : Stmt :=
  Stmt.seq (Stmt.region [SOper.mk (some 6) none (SOp.mv (Operand.const (Value.int IntKind.i64 0)))] [0, 1, 2])
  (Stmt.seq
    (Stmt.seq
      (Stmt.region
        [SOper.mk (some 11) none (SOp.mv (Operand.tmp 0)), SOper.mk (some 12) none (SOp.len false (Operand.tmp 11)),
          SOper.mk (some 13) none (SOp.mv (Operand.const (Value.int IntKind.i64 0)))]
        [0, 1, 2, 11, 12, 13])
      (Stmt.block 0 (Stmt.loop S202_1 [13] [0, 1, 2, 11, 12])))
    (Stmt.seq
      (Stmt.seq
        (Stmt.region
          [SOper.mk (some 34) none (SOp.mv (Operand.tmp 0)), SOper.mk (some 35) none (SOp.len false (Operand.tmp 34)),
            SOper.mk (some 36) none (SOp.mv (Operand.tmp 1)), SOper.mk (some 37) none (SOp.len false (Operand.tmp 36)),
            SOper.mk (some 38) none (SOp.ibin BinOp.lss (Operand.tmp 35) (Operand.tmp 37))]
          [38])
        (Stmt.cond (Operand.tmp 38)
          (Stmt.seq (Stmt.region [SOper.mk (some 6) none (SOp.mv (Operand.const (Value.int IntKind.i64 (-1))))] [6])
            Stmt.ret)
          Stmt.skip))
      (Stmt.seq (Stmt.region [SOper.mk (some 6) none (SOp.mv (Operand.const (Value.int IntKind.i64 0)))] [6])
        Stmt.ret)))
def S202 : FnS := ⟨39, [(6, none)], S202_0⟩
theorem tr202 : trFn Try.prog 202 [8, 9] [[0, 1, 2], [0, 1, 2, 11, 12, 13], [13], [0, 1, 2, 11, 12], [0, 1, 2, 11, 12, 13, 14], [0, 1, 2, 7, 8, 11, 12, 13], [0, 1, 2, 7, 8, 11, 12, 13, 21], [6], [0, 1, 2, 8, 9, 11, 12, 13], [0, 1, 2, 10, 11, 12, 13], [0, 1, 2, 10, 11, 12, 13, 31], [6], [0, 1, 2, 11, 12, 13], [38], [6], [6]] = some S202 := by kernel_rfl
end Go.Proofs.Ytniobbepliknmaa.V
/- The text of parlance/gram.Compare as a statement (slots: 0 a, 1 b, 2 a, 3 b, 5 c); no condition. -/
namespace Go.Proofs.Ytniobbepliknmaa.V
open Go
def S172_0 : Stmt :=
  Stmt.seq
  (Stmt.region
    [SOper.mk (some 2) none (SOp.box true 37 (Operand.tmp 0)), SOper.mk (some 3) none (SOp.box true 37 (Operand.tmp 1)),
      SOper.mk (some 4) none (SOp.mv (Operand.const (Value.int IntKind.i64 0)))]
    [2, 3])
  (Stmt.seq
    (Stmt.seq
      (Stmt.region
        [SOper.mk (some 6) none (SOp.fld 0 (Operand.tmp 2)), SOper.mk (some 7) none (SOp.load false 1 (Operand.tmp 6)),
          SOper.mk (some 8) none (SOp.fld 0 (Operand.tmp 3)), SOper.mk (some 9) none (SOp.load false 1 (Operand.tmp 8)),
          SOper.mk (some 10) none (SOp.call (Operand.func 105) [Operand.tmp 7, Operand.tmp 9]),
          SOper.mk (some 5) none (SOp.mv (Operand.tmp 10))]
        [2, 3, 5])
      (Stmt.seq
        (Stmt.region
          [SOper.mk (some 11) none (SOp.mv (Operand.tmp 5)),
            SOper.mk (some 12) none (SOp.ibin BinOp.neq (Operand.tmp 11) (Operand.const (Value.int IntKind.i64 0)))]
          [2, 3, 5, 12])
        (Stmt.cond (Operand.tmp 12)
          (Stmt.seq
            (Stmt.region
              [SOper.mk (some 13) none (SOp.mv (Operand.tmp 5)), SOper.mk (some 4) none (SOp.mv (Operand.tmp 13))] [4])
            Stmt.ret)
          Stmt.skip)))
    (Stmt.seq
      (Stmt.region
        [SOper.mk (some 14) none (SOp.fld 1 (Operand.tmp 2)),
          SOper.mk (some 15) none (SOp.load false 1 (Operand.tmp 14)),
          SOper.mk (some 16) none (SOp.fld 1 (Operand.tmp 3)),
          SOper.mk (some 17) none (SOp.load false 1 (Operand.tmp 16)),
          SOper.mk (some 18) none (SOp.call (Operand.func 202) [Operand.tmp 15, Operand.tmp 17, Operand.func 203]),
          SOper.mk (some 4) none (SOp.mv (Operand.tmp 18))]
        [4])
      Stmt.ret))
def S172 : FnS := ⟨19, [(4, none)], S172_0⟩
theorem tr172 : trFn Try.prog 172 [2, 3] [[2, 3], [2, 3, 5], [2, 3, 5, 12], [4], [4]] = some S172 := by kernel_rfl
end Go.Proofs.Ytniobbepliknmaa.V
/- The text of parlance/gram.Check as a statement (slots: 0 g, 1 g, 3 i, 4 r, 5 _, 6 s, 7 _, 8 q); no condition. -/
namespace Go.Proofs.Ytniobbepliknmaa.V
open Go
def S112_1 : Stmt :=
  Stmt.seq
  (Stmt.region [SOper.mk (some 69) none (SOp.ibin BinOp.lss (Operand.tmp 68) (Operand.tmp 67))]
    [1, 3, 4, 44, 45, 46, 66, 67, 68, 69])
  (Stmt.seq (Stmt.cond (Operand.tmp 69) Stmt.skip (Stmt.exit 2))
    (Stmt.seq
      (Stmt.block 3
        (Stmt.seq
          (Stmt.region
            [SOper.mk (some 70) none (SOp.idx 2 (Operand.tmp 66) (Operand.tmp 68)),
              SOper.mk (some 71) none (SOp.load true 2 (Operand.tmp 70)),
              SOper.mk (some 6) none
                (SOp.alloc true 39 (Value.agg (Array.mk [Value.bool false, Value.int IntKind.i64 0]))),
              SOper.mk none none (SOp.store 2 (Operand.tmp 6) (Operand.tmp 71))]
            [1, 3, 4, 6, 44, 45, 46, 66, 67, 68])
          (Stmt.seq
            (Stmt.region
              [SOper.mk (some 72) none (SOp.fld 1 (Operand.tmp 6)),
                SOper.mk (some 73) none (SOp.load false 1 (Operand.tmp 72)),
                SOper.mk (some 74) none (SOp.ibin BinOp.lss (Operand.tmp 73) (Operand.const (Value.int IntKind.i64 0))),
                SOper.mk (some 75) none (SOp.mv (Operand.tmp 74)),
                SOper.mk (some 76) (some (75, false)) (SOp.fld 0 (Operand.tmp 6)),
                SOper.mk (some 77) (some (75, false)) (SOp.load false 1 (Operand.tmp 76)),
                SOper.mk (some 78) (some (75, false)) (SOp.mv (Operand.tmp 77)),
                SOper.mk (some 79) (some (78, true)) (SOp.fld 1 (Operand.tmp 6)),
                SOper.mk (some 80) (some (78, true)) (SOp.load false 1 (Operand.tmp 79)),
                SOper.mk (some 81) (some (78, true)) (SOp.fld 0 (Operand.tmp 1)),
                SOper.mk (some 82) (some (78, true)) (SOp.load false 1 (Operand.tmp 81)),
                SOper.mk (some 83) (some (78, true)) (SOp.ibin BinOp.geq (Operand.tmp 80) (Operand.tmp 82)),
                SOper.mk (some 84) (some (75, false))
                  (SOp.pick (Operand.tmp 78) (Operand.tmp 83) (Operand.const (Value.bool false))),
                SOper.mk (some 85) none (SOp.pick (Operand.tmp 75) (Operand.const (Value.bool true)) (Operand.tmp 84)),
                SOper.mk (some 86) none (SOp.mv (Operand.tmp 85)),
                SOper.mk (some 87) (some (86, false)) (SOp.fld 0 (Operand.tmp 6)),
                SOper.mk (some 88) (some (86, false)) (SOp.load false 1 (Operand.tmp 87)),
                SOper.mk (some 89) (some (86, false)) (SOp.un UnOp.not (Operand.tmp 88)),
                SOper.mk (some 90) (some (86, false)) (SOp.mv (Operand.tmp 89)),
                SOper.mk (some 91) (some (90, true)) (SOp.fld 1 (Operand.tmp 6)),
                SOper.mk (some 92) (some (90, true)) (SOp.load false 1 (Operand.tmp 91)),
                SOper.mk (some 93) (some (90, true)) (SOp.fld 1 (Operand.tmp 1)),
                SOper.mk (some 94) (some (90, true)) (SOp.load false 1 (Operand.tmp 93)),
                SOper.mk (some 95) (some (90, true)) (SOp.ibin BinOp.geq (Operand.tmp 92) (Operand.tmp 94)),
                SOper.mk (some 96) (some (86, false))
                  (SOp.pick (Operand.tmp 90) (Operand.tmp 95) (Operand.const (Value.bool false))),
                SOper.mk (some 97) none (SOp.pick (Operand.tmp 86) (Operand.const (Value.bool true)) (Operand.tmp 96))]
              [1, 3, 4, 44, 45, 46, 66, 67, 68, 97])
            (Stmt.cond (Operand.tmp 97)
              (Stmt.seq (Stmt.region [SOper.mk (some 2) none (SOp.mv (Operand.const (Value.int IntKind.i64 3)))] [2])
                Stmt.ret)
              Stmt.skip))))
      (Stmt.region
        [SOper.mk (some 98) none (SOp.ibin BinOp.add (Operand.tmp 68) (Operand.const (Value.int IntKind.i64 1))),
          SOper.mk (some 68) none (SOp.mv (Operand.tmp 98))]
        [1, 3, 4, 44, 45, 46, 66, 67, 68])))
def S112_2 : Stmt :=
  Stmt.seq
  (Stmt.region [SOper.mk (some 105) none (SOp.ibin BinOp.lss (Operand.tmp 104) (Operand.tmp 103))]
    [1, 4, 44, 45, 46, 102, 103, 104, 105])
  (Stmt.seq (Stmt.cond (Operand.tmp 105) Stmt.skip (Stmt.exit 4))
    (Stmt.seq
      (Stmt.block 5
        (Stmt.seq
          (Stmt.region
            [SOper.mk (some 106) none (SOp.idx 2 (Operand.tmp 102) (Operand.tmp 104)),
              SOper.mk (some 107) none (SOp.load true 2 (Operand.tmp 106)),
              SOper.mk (some 8) none
                (SOp.alloc true 37 (Value.agg (Array.mk [Value.int IntKind.i64 0, Value.slice none 0 0]))),
              SOper.mk none none (SOp.store 2 (Operand.tmp 8) (Operand.tmp 107))]
            [1, 4, 8, 44, 45, 46, 102, 103, 104])
          (Stmt.seq
            (Stmt.region
              [SOper.mk (some 108) none (SOp.load true 2 (Operand.tmp 8)),
                SOper.mk (some 109) none (SOp.load true 2 (Operand.tmp 4)),
                SOper.mk (some 110) none (SOp.call (Operand.func 172) [Operand.tmp 108, Operand.tmp 109]),
                SOper.mk (some 111) none
                  (SOp.ibin BinOp.eql (Operand.tmp 110) (Operand.const (Value.int IntKind.i64 0)))]
              [1, 4, 44, 45, 46, 102, 103, 104, 111])
            (Stmt.cond (Operand.tmp 111)
              (Stmt.seq (Stmt.region [SOper.mk (some 2) none (SOp.mv (Operand.const (Value.int IntKind.i64 6)))] [2])
                Stmt.ret)
              Stmt.skip))))
      (Stmt.region
        [SOper.mk (some 112) none (SOp.ibin BinOp.add (Operand.tmp 104) (Operand.const (Value.int IntKind.i64 1))),
          SOper.mk (some 104) none (SOp.mv (Operand.tmp 112))]
        [1, 4, 44, 45, 46, 102, 103, 104])))
def S112_3 : Stmt :=
  Stmt.seq
  (Stmt.region [SOper.mk (some 47) none (SOp.ibin BinOp.lss (Operand.tmp 46) (Operand.tmp 45))] [1, 44, 45, 46, 47])
  (Stmt.seq (Stmt.cond (Operand.tmp 47) Stmt.skip (Stmt.exit 0))
    (Stmt.seq
      (Stmt.block 1
        (Stmt.seq
          (Stmt.region
            [SOper.mk (some 48) none (SOp.mv (Operand.tmp 46)),
              SOper.mk (some 49) none (SOp.idx 2 (Operand.tmp 44) (Operand.tmp 46)),
              SOper.mk (some 50) none (SOp.load true 2 (Operand.tmp 49)),
              SOper.mk (some 4) none
                (SOp.alloc true 37 (Value.agg (Array.mk [Value.int IntKind.i64 0, Value.slice none 0 0]))),
              SOper.mk (some 3) none (SOp.mv (Operand.tmp 48)),
              SOper.mk none none (SOp.store 2 (Operand.tmp 4) (Operand.tmp 50))]
            [1, 3, 4, 44, 45, 46])
          (Stmt.seq
            (Stmt.seq
              (Stmt.region
                [SOper.mk (some 51) none (SOp.fld 0 (Operand.tmp 4)),
                  SOper.mk (some 52) none (SOp.load false 1 (Operand.tmp 51)),
                  SOper.mk (some 53) none
                    (SOp.ibin BinOp.lss (Operand.tmp 52) (Operand.const (Value.int IntKind.i64 0))),
                  SOper.mk (some 54) none (SOp.mv (Operand.tmp 53)),
                  SOper.mk (some 55) (some (54, false)) (SOp.fld 0 (Operand.tmp 4)),
                  SOper.mk (some 56) (some (54, false)) (SOp.load false 1 (Operand.tmp 55)),
                  SOper.mk (some 57) (some (54, false)) (SOp.fld 1 (Operand.tmp 1)),
                  SOper.mk (some 58) (some (54, false)) (SOp.load false 1 (Operand.tmp 57)),
                  SOper.mk (some 59) (some (54, false)) (SOp.ibin BinOp.geq (Operand.tmp 56) (Operand.tmp 58)),
                  SOper.mk (some 60) none
                    (SOp.pick (Operand.tmp 54) (Operand.const (Value.bool true)) (Operand.tmp 59))]
                [1, 3, 4, 44, 45, 46, 60])
              (Stmt.cond (Operand.tmp 60)
                (Stmt.seq (Stmt.region [SOper.mk (some 2) none (SOp.mv (Operand.const (Value.int IntKind.i64 3)))] [2])
                  Stmt.ret)
                Stmt.skip))
            (Stmt.seq
              (Stmt.seq
                (Stmt.region
                  [SOper.mk (some 61) none (SOp.fld 1 (Operand.tmp 4)),
                    SOper.mk (some 62) none (SOp.load false 1 (Operand.tmp 61)),
                    SOper.mk (some 63) none (SOp.len false (Operand.tmp 62)),
                    SOper.mk (some 64) none
                      (SOp.ibin BinOp.gtr (Operand.tmp 63) (Operand.const (Value.int IntKind.i64 4)))]
                  [1, 3, 4, 44, 45, 46, 64])
                (Stmt.cond (Operand.tmp 64)
                  (Stmt.seq
                    (Stmt.region [SOper.mk (some 2) none (SOp.mv (Operand.const (Value.int IntKind.i64 2)))] [2])
                    Stmt.ret)
                  Stmt.skip))
              (Stmt.seq
                (Stmt.seq
                  (Stmt.region
                    [SOper.mk (some 65) none (SOp.fld 1 (Operand.tmp 4)),
                      SOper.mk (some 66) none (SOp.load false 1 (Operand.tmp 65)),
                      SOper.mk (some 67) none (SOp.len false (Operand.tmp 66)),
                      SOper.mk (some 68) none (SOp.mv (Operand.const (Value.int IntKind.i64 0)))]
                    [1, 3, 4, 44, 45, 46, 66, 67, 68])
                  (Stmt.block 2 (Stmt.loop S112_1 [68] [1, 3, 4, 44, 45, 46, 66, 67])))
                (Stmt.seq
                  (Stmt.region
                    [SOper.mk (some 99) none (SOp.fld 3 (Operand.tmp 1)),
                      SOper.mk (some 100) none (SOp.load false 1 (Operand.tmp 99)),
                      SOper.mk (some 101) none (SOp.mv (Operand.tmp 3)),
                      SOper.mk (some 102) none (SOp.slc 2 (Operand.tmp 100) none (some (Operand.tmp 101)) none),
                      SOper.mk (some 103) none (SOp.len false (Operand.tmp 102)),
                      SOper.mk (some 104) none (SOp.mv (Operand.const (Value.int IntKind.i64 0)))]
                    [1, 4, 44, 45, 46, 102, 103, 104])
                  (Stmt.block 4 (Stmt.loop S112_2 [104] [1, 4, 44, 45, 46, 102, 103]))))))))
      (Stmt.region
        [SOper.mk (some 113) none (SOp.ibin BinOp.add (Operand.tmp 46) (Operand.const (Value.int IntKind.i64 1))),
          SOper.mk (some 46) none (SOp.mv (Operand.tmp 113))]
        [1, 44, 45, 46])))
def S112_0 : Stmt :=
  Stmt.seq
  (Stmt.region
    [SOper.mk (some 1) none (SOp.box true 57 (Operand.tmp 0)),
      SOper.mk (some 2) none (SOp.mv (Operand.const (Value.int IntKind.i64 0)))]
    [1])
  (Stmt.seq
    (Stmt.seq
      (Stmt.region
        [SOper.mk (some 9) none (SOp.fld 0 (Operand.tmp 1)), SOper.mk (some 10) none (SOp.load false 1 (Operand.tmp 9)),
          SOper.mk (some 11) none (SOp.ibin BinOp.lss (Operand.tmp 10) (Operand.const (Value.int IntKind.i64 1))),
          SOper.mk (some 12) none (SOp.mv (Operand.tmp 11)),
          SOper.mk (some 13) (some (12, false)) (SOp.fld 0 (Operand.tmp 1)),
          SOper.mk (some 14) (some (12, false)) (SOp.load false 1 (Operand.tmp 13)),
          SOper.mk (some 15) (some (12, false))
            (SOp.ibin BinOp.gtr (Operand.tmp 14) (Operand.const (Value.int IntKind.i64 8))),
          SOper.mk (some 16) none (SOp.pick (Operand.tmp 12) (Operand.const (Value.bool true)) (Operand.tmp 15)),
          SOper.mk (some 17) none (SOp.mv (Operand.tmp 16)),
          SOper.mk (some 18) (some (17, false)) (SOp.fld 1 (Operand.tmp 1)),
          SOper.mk (some 19) (some (17, false)) (SOp.load false 1 (Operand.tmp 18)),
          SOper.mk (some 20) (some (17, false))
            (SOp.ibin BinOp.lss (Operand.tmp 19) (Operand.const (Value.int IntKind.i64 1))),
          SOper.mk (some 21) none (SOp.pick (Operand.tmp 17) (Operand.const (Value.bool true)) (Operand.tmp 20)),
          SOper.mk (some 22) none (SOp.mv (Operand.tmp 21)),
          SOper.mk (some 23) (some (22, false)) (SOp.fld 1 (Operand.tmp 1)),
          SOper.mk (some 24) (some (22, false)) (SOp.load false 1 (Operand.tmp 23)),
          SOper.mk (some 25) (some (22, false))
            (SOp.ibin BinOp.gtr (Operand.tmp 24) (Operand.const (Value.int IntKind.i64 10))),
          SOper.mk (some 26) none (SOp.pick (Operand.tmp 22) (Operand.const (Value.bool true)) (Operand.tmp 25)),
          SOper.mk (some 27) none (SOp.mv (Operand.tmp 26)),
          SOper.mk (some 28) (some (27, false)) (SOp.fld 2 (Operand.tmp 1)),
          SOper.mk (some 29) (some (27, false)) (SOp.load false 1 (Operand.tmp 28)),
          SOper.mk (some 30) (some (27, false))
            (SOp.ibin BinOp.lss (Operand.tmp 29) (Operand.const (Value.int IntKind.i64 0))),
          SOper.mk (some 31) none (SOp.pick (Operand.tmp 27) (Operand.const (Value.bool true)) (Operand.tmp 30)),
          SOper.mk (some 32) none (SOp.mv (Operand.tmp 31)),
          SOper.mk (some 33) (some (32, false)) (SOp.fld 2 (Operand.tmp 1)),
          SOper.mk (some 34) (some (32, false)) (SOp.load false 1 (Operand.tmp 33)),
          SOper.mk (some 35) (some (32, false)) (SOp.fld 1 (Operand.tmp 1)),
          SOper.mk (some 36) (some (32, false)) (SOp.load false 1 (Operand.tmp 35)),
          SOper.mk (some 37) (some (32, false)) (SOp.ibin BinOp.geq (Operand.tmp 34) (Operand.tmp 36)),
          SOper.mk (some 38) none (SOp.pick (Operand.tmp 32) (Operand.const (Value.bool true)) (Operand.tmp 37))]
        [1, 38])
      (Stmt.cond (Operand.tmp 38)
        (Stmt.seq (Stmt.region [SOper.mk (some 2) none (SOp.mv (Operand.const (Value.int IntKind.i64 1)))] [2])
          Stmt.ret)
        Stmt.skip))
    (Stmt.seq
      (Stmt.seq
        (Stmt.region
          [SOper.mk (some 39) none (SOp.fld 3 (Operand.tmp 1)),
            SOper.mk (some 40) none (SOp.load false 1 (Operand.tmp 39)),
            SOper.mk (some 41) none (SOp.len false (Operand.tmp 40)),
            SOper.mk (some 42) none (SOp.ibin BinOp.gtr (Operand.tmp 41) (Operand.const (Value.int IntKind.i64 32)))]
          [1, 42])
        (Stmt.cond (Operand.tmp 42)
          (Stmt.seq (Stmt.region [SOper.mk (some 2) none (SOp.mv (Operand.const (Value.int IntKind.i64 2)))] [2])
            Stmt.ret)
          Stmt.skip))
      (Stmt.seq
        (Stmt.seq
          (Stmt.region
            [SOper.mk (some 43) none (SOp.fld 3 (Operand.tmp 1)),
              SOper.mk (some 44) none (SOp.load false 1 (Operand.tmp 43)),
              SOper.mk (some 45) none (SOp.len false (Operand.tmp 44)),
              SOper.mk (some 46) none (SOp.mv (Operand.const (Value.int IntKind.i64 0)))]
            [1, 44, 45, 46])
          (Stmt.block 0 (Stmt.loop S112_3 [46] [1, 44, 45])))
        (Stmt.seq (Stmt.region [SOper.mk (some 2) none (SOp.mv (Operand.const (Value.int IntKind.i64 0)))] [2])
          Stmt.ret))))
def S112 : FnS := ⟨114, [(2, none)], S112_0⟩
theorem tr112 : trFn Try.prog 112 [1, 4, 6, 8] [[1], [1, 38], [2], [1, 42], [2], [1, 44, 45, 46], [46], [1, 44, 45], [1, 44, 45, 46, 47], [1, 3, 4, 44, 45, 46], [1, 3, 4, 44, 45, 46, 60], [2], [1, 3, 4, 44, 45, 46, 64], [2], [1, 3, 4, 44, 45, 46, 66, 67, 68], [68], [1, 3, 4, 44, 45, 46, 66, 67], [1, 3, 4, 44, 45, 46, 66, 67, 68, 69], [1, 3, 4, 6, 44, 45, 46, 66, 67, 68], [1, 3, 4, 44, 45, 46, 66, 67, 68, 97], [2], [1, 3, 4, 44, 45, 46, 66, 67, 68], [1, 4, 44, 45, 46, 102, 103, 104], [104], [1, 4, 44, 45, 46, 102, 103], [1, 4, 44, 45, 46, 102, 103, 104, 105], [1, 4, 8, 44, 45, 46, 102, 103, 104], [1, 4, 44, 45, 46, 102, 103, 104, 111], [2], [1, 4, 44, 45, 46, 102, 103, 104], [1, 44, 45, 46], [2]] = some S112 := by kernel_rfl
end Go.Proofs.Ytniobbepliknmaa.V
/- Grammars are checked: gram.Order, gram.Compare and gram.Check walked; no condition. -/
namespace Go.Proofs.Ytniobbepliknmaa.V
open Go
set_option linter.unusedVariables false
set_option linter.unusedSimpArgs false
attribute [local go_sem] e_seq e_region e_quiet e_join e_loop e_cond e_block e_exit e_ret e_skip e_fin e_kseq e_snrm e_sret e_sex e_bnrm e_bret e_bex e_rnrm e_rret e_res e_condC e_nil e_g e_mv g_mv e_pick g_pick pickC_eq e_ibin g_ibin ibinC_eq e_sbin g_sbin e_beq g_beq beqC_eq e_nilq g_nilq nilqC_sl nilqC_pt nilqC_mp e_un g_un unC_not unC_neg e_conv g_conv convC_eq e_fld g_fld fldC_ref fldC_ptr e_nilCheck g_nilCheck nilCheckC_ref nilCheckC_ptr nilCheckC_fun e_field g_field fieldC_eq e_len g_len lenC_sl lenC_str e_extract g_extract extractC_eq e_mkFunc e_build g_build e_idiv g_idiv idivC_eq e_ishift g_ishift ishiftC_eq e_idx g_idx e_idxA g_idxA e_load g_load loadC_ref loadC_ptr loadB_eq e_slc g_slc e_box boxC_loc boxC_esc e_alloc allocC_loc allocC_esc e_buildS e_store storeC_ref storeC_ptr storeB_eq e_append e_appz e_mk mkC_eq e_call callC_eq e_fn g_fn fnC_eq fnV_min' fnV_max' fnV_rune' e_q g_q e_a e_n g_call g_box g_alloc g_buildS g_store g_append g_mk g_a g_n g_dead e_dead e_callK e_drawn e_tree e_finJ e_tk e_tfin e_tno e_nbt_q e_nbt_qn e_nbt_a e_nbt_an e_nbt_fin e_early_nil e_early_t e_early_f e_nob_nil e_nob_none e_nob_some isBox_dead isBox_v isBox_ref e_dnil e_dk e_ek e_finB vcOps_vc1 e_dcons e_tq e_ekt e_tearly e_talt e_dearly look_nil look_c proj_nil proj_c looks_nil looks_c zip_nil zip_c val_tmp val_const val_func slv_v slv_box slv_ref slot_tmp slot_const slot_func slotL_v slotL_box slotL_ref put_some put_none updBox_c boxSet_box gd_eq slotVals_nil slotVals_c slotVals_b boxV_box boxOn_box slotsOn_nil slotsOn_c slotsOn_b resV_one resV_two vals_nil vals_c allOn_nil allOn_c partOn_nil partOn_c partVals_nil partVals_c fits_nil fits_c fillL_nil fillL_c mkv_one mkv_agg cellsV_agg cellsV_int cellsV_bool cellsV_slice cellsV_string cellsV_pointer cellsV_func cellsV_nilf cellsV_map one'_nil one'_c oc_int oc_bool oc_slice oc_string oc_pointer oc_func oc_nilf oc_map setC_eq iv_add iv_sub iv_mul iv_eql iv_neq iv_lss iv_leq iv_gtr iv_geq iok_add iok_sub iok_mul iok_eql iok_neq iok_lss iok_leq iok_gtr iok_geq pickV_bool args0_nil args0_c bnd_none bnd_some imp_bt imp_bf imp_ebt imp_ebf imp_eb1 imp_np imp_pp beq_tt beq_tf beq_ft beq_ff cond_or cond_and e_round e_meet Int.le_refl Int.toNat_zero decide_true decide_false Bool.or_false Bool.false_or Bool.true_or Bool.or_true Bool.and_false Bool.false_and Bool.bne_false Bool.bne_true beq_iff_eq Int.cast_ofNat_Int not_false_eq_true not_true_eq_false false_and and_false false_implies true_implies true_and and_true Bool.true_and Bool.and_true Bool.not_true Bool.not_false forall_const implies_true List.take_zero List.drop_zero List.take_succ_cons List.drop_succ_cons List.take_nil List.drop_nil List.length_cons List.length_nil List.nil_append List.append_nil List.cons_append Int.toNat_natCast decide_eq_true_eq decide_eq_false_iff_not cond_true cond_false and_self List.getElem?_cons_zero List.getElem?_cons_succ List.set_cons_zero List.set_cons_succ Option.some.injEq exists_eq_left' Nat.zero_add Nat.add_zero Nat.mul_one imp_self true_or or_true or_false false_or Bool.or_eq_true Bool.or_eq_false_iff Bool.and_eq_true Bool.and_eq_false_iff Bool.not_eq_true' Bool.not_eq_false'

def symC (a b : Sy) : Int := if a.t = true ∧ b.t = false then -1 else if a.t = false ∧ b.t = true then 1 else cmpI a.n b.n
def symsC : List Sy → List Sy → Int
  | [], [] => 0
  | [], _ :: _ => -1
  | _ :: _, [] => 1
  | a :: r, b :: s => if symC a b = 0 then symsC r s else symC a b
def ruleC (a b : Ru) : Int := if cmpI a.l b.l = 0 then symsC a.r b.r else cmpI a.l b.l
theorem cmpI_zero {a b : Int} : cmpI a b = 0 ↔ a = b := by
  unfold cmpI
  constructor
  · intro h
    split at h
    · omega
    · split at h <;> omega
  · rintro rfl
    simp
theorem symC_zero {a b : Sy} : symC a b = 0 ↔ a = b := by
  obtain ⟨t, n⟩ := a
  obtain ⟨t', n'⟩ := b
  unfold symC
  cases t <;> cases t' <;> simp [cmpI_zero]
theorem symsC_zero : ∀ {a b : List Sy}, symsC a b = 0 ↔ a = b
  | [], [] => by simp [symsC]
  | [], _ :: _ => by simp [symsC]
  | _ :: _, [] => by simp [symsC]
  | a :: r, b :: s => by
    simp only [symsC, List.cons.injEq]
    by_cases h : symC a b = 0
    · rw [if_pos h, symsC_zero (a := r), symC_zero] at *
      exact ⟨fun q => ⟨h, q⟩, fun q => q.2⟩
    · rw [if_neg h]
      exact ⟨fun q => absurd q h, fun q => absurd (symC_zero.2 q.1) h⟩
theorem ruleC_zero {a b : Ru} : ruleC a b = 0 ↔ a = b := by
  obtain ⟨l, r⟩ := a
  obtain ⟨l', r'⟩ := b
  unfold ruleC
  by_cases h : cmpI l l' = 0
  · rw [if_pos h, symsC_zero]
    simp only [Ru.mk.injEq, cmpI_zero.1 h, true_and]
  · simp only [if_neg h, Ru.mk.injEq]
    exact ⟨fun q => absurd q h, fun q => absurd (cmpI_zero.2 q.1) h⟩

theorem gram_order {Γr : Ctx} (a b : Sy) : Ret Try.prog 203 [.agg #[.bool a.t, .int .i64 a.n], .agg #[.bool b.t, .int .i64 b.n]] Γr [] (fun v Γ => Γ = [] ∧ v = .int .i64 (symC a b)) := by
  generalize hR : (fun (v : Value) (Γ : Ctx) => Γ = [] ∧ _) = R
  refine ret_of_vc tr203 (Nat.le_of_ble_eq_true rfl) ?_
  obtain ⟨t, n⟩ := a
  obtain ⟨t', n'⟩ := b
  cases t <;> cases t'
  all_goals
    simp -implicitDefEqProofs only [S203, S203_0, go_sem, Nat.reduceBEq, Nat.reduceAdd, Nat.reduceSub, Nat.reduceMul, Nat.reduceLeDiff, reduceCtorEq, ↓reduceIte, Int.reduceLT, Int.reduceLE, Int.reduceEq, Int.reduceNe]
  · intro b b'
    refine CallVC.read (cmp_compare _ _) ?_
    rintro v Γ' ⟨rfl, rfl⟩
    simp -implicitDefEqProofs only [go_sem, Nat.reduceBEq, Nat.reduceAdd, Nat.reduceSub, Nat.reduceMul, Nat.reduceLeDiff, reduceCtorEq, ↓reduceIte, Int.reduceLT, Int.reduceLE, Int.reduceEq, Int.reduceNe]
    refine Up.here ?_
    subst hR
    exact ⟨rfl, rfl⟩
  · refine Up.here ?_
    subst hR
    exact ⟨rfl, rfl⟩
  · refine Up.here ?_
    subst hR
    exact ⟨rfl, rfl⟩
  · intro b b'
    refine CallVC.read (cmp_compare _ _) ?_
    rintro v Γ' ⟨rfl, rfl⟩
    simp -implicitDefEqProofs only [go_sem, Nat.reduceBEq, Nat.reduceAdd, Nat.reduceSub, Nat.reduceMul, Nat.reduceLeDiff, reduceCtorEq, ↓reduceIte, Int.reduceLT, Int.reduceLE, Int.reduceEq, Int.reduceNe]
    refine Up.here ?_
    subst hR
    exact ⟨rfl, rfl⟩

theorem compare_syms {Γr : Ctx} {A B : Option Addr} {c d : Nat} {xs ys : List Sy} (hx : SlOk (lk Γr) A c xs) (hy : SlOk (lk Γr) B d ys) :
    Ret Try.prog 202 [.slice A xs.length c, .slice B ys.length d, .func (.func 203) #[] #[]] Γr [] (fun v Γ => Γ = [] ∧ v = .int .i64 (symsC xs ys)) := by
  generalize hR : (fun (v : Value) (Γ : Ctx) => Γ = [] ∧ _) = R
  refine ret_of_vc tr202 (Nat.le_of_ble_eq_true rfl) ?_
  have h1 := hx.short
  have h2 := hy.short
  simp -implicitDefEqProofs only [S202, S202_0, go_sem, Nat.reduceBEq, Nat.reduceAdd, Nat.reduceSub, Nat.reduceMul, Nat.reduceLeDiff, reduceCtorEq, ↓reduceIte, Int.reduceLT, Int.reduceLE, Int.reduceEq, Int.reduceNe]
  refine s_loop (fun f vs Γ => Γ = [] ∧ ∃ k : Nat, vs = [.v true (.int .i64 k)] ∧ k + f = xs.length ∧ k ≤ ys.length ∧ symsC xs ys = symsC (xs.drop k) (ys.drop k)) xs.length (Up.here ⟨rfl, 0, rfl, by omega, by omega, by simp⟩) ?_
  rintro f vs Γ ⟨rfl, k, rfl, hkf, hky, he⟩
  simp -implicitDefEqProofs only [S202_1, go_sem, Nat.reduceBEq, Nat.reduceAdd, Nat.reduceSub, Nat.reduceMul, Nat.reduceLeDiff, reduceCtorEq, ↓reduceIte, Int.reduceLT, Int.reduceLE, Int.reduceEq, Int.reduceNe]
  refine ⟨fun hlt => ?_, fun hge => ?_⟩
  · have hk : k < xs.length := by omega
    obtain ⟨b, o, hA, hc1⟩ := hx.sy hk
    refine s_idx hA (by omega) (by omega) ?_
    simp -implicitDefEqProofs only [go_sem, Nat.reduceBEq, Nat.reduceAdd, Nat.reduceSub, Nat.reduceMul, Nat.reduceLeDiff, reduceCtorEq, ↓reduceIte, Int.reduceLT, Int.reduceLE, Int.reduceEq, Int.reduceNe]
    refine s_ld0 (hc1 _ (Mem.le.refl _)) (by simp) (by simp) ?_
    simp -implicitDefEqProofs only [go_sem, Nat.reduceBEq, Nat.reduceAdd, Nat.reduceSub, Nat.reduceMul, Nat.reduceLeDiff, reduceCtorEq, ↓reduceIte, Int.reduceLT, Int.reduceLE, Int.reduceEq, Int.reduceNe]
    rw [List.drop_eq_getElem_cons hk] at he
    intro b1
    refine ⟨fun hle => Up.here ?_, fun hlt2 => ?_⟩
    · have : ys.drop k = [] := List.drop_eq_nil_of_le (by omega)
      subst hR
      refine ⟨rfl, ?_⟩
      rw [he, this]
      rfl
    · have hk' : k < ys.length := by omega
      obtain ⟨b', o', hB, hc2⟩ := hy.sy hk'
      refine s_idx hB (by omega) (by omega) ?_
      simp -implicitDefEqProofs only [go_sem, Nat.reduceBEq, Nat.reduceAdd, Nat.reduceSub, Nat.reduceMul, Nat.reduceLeDiff, reduceCtorEq, ↓reduceIte, Int.reduceLT, Int.reduceLE, Int.reduceEq, Int.reduceNe]
      refine s_ld0 (hc2 _ (Mem.le.refl _)) (by simp) (by simp) ?_
      simp -implicitDefEqProofs only [go_sem, Nat.reduceBEq, Nat.reduceAdd, Nat.reduceSub, Nat.reduceMul, Nat.reduceLeDiff, reduceCtorEq, ↓reduceIte, Int.reduceLT, Int.reduceLE, Int.reduceEq, Int.reduceNe]
      intro b2
      refine CallVC.read (gram_order _ _) ?_
      rintro v Γ' ⟨rfl, rfl⟩
      rw [List.drop_eq_getElem_cons hk', symsC] at he
      simp -implicitDefEqProofs only [go_sem, Nat.reduceBEq, Nat.reduceAdd, Nat.reduceSub, Nat.reduceMul, Nat.reduceLeDiff, reduceCtorEq, ↓reduceIte, Int.reduceLT, Int.reduceLE, Int.reduceEq, Int.reduceNe]
      refine ⟨fun hne => Up.here ?_, fun heq => ?_⟩
      · rw [if_neg hne] at he
        subst hR
        exact ⟨rfl, by rw [he]⟩
      · rw [if_pos heq] at he
        simp (disch := omega) only [wrap_id]
        exact ⟨f - 1, by omega, Up.here ⟨rfl, k + 1, rfl, by omega, by omega, he⟩⟩
  · have hk : k = xs.length := by omega
    rw [hk, List.drop_length] at he
    subst hR
    refine ⟨fun h => Up.here ⟨rfl, ?_⟩, fun h => Up.here ⟨rfl, ?_⟩⟩
    · rw [he, List.drop_eq_getElem_cons (by omega)]
      rfl
    · rw [he, List.drop_eq_nil_of_le (by omega)]
      rfl

theorem gram_compare {Γr : Ctx} {a b : Ru} {A B : Option Addr} {c d : Nat} (hx : SlOk (lk Γr) A c a.r) (hy : SlOk (lk Γr) B d b.r) :
    Ret Try.prog 172 [.agg #[.int .i64 a.l, .slice A a.r.length c], .agg #[.int .i64 b.l, .slice B b.r.length d]] Γr [] (fun v Γ => Γ = [] ∧ v = .int .i64 (ruleC a b)) := by
  generalize hR : (fun (v : Value) (Γ : Ctx) => Γ = [] ∧ _) = R
  refine ret_of_vc tr172 (Nat.le_of_ble_eq_true rfl) ?_
  simp -implicitDefEqProofs only [S172, S172_0, go_sem, Nat.reduceBEq, Nat.reduceAdd, Nat.reduceSub, Nat.reduceMul, Nat.reduceLeDiff, reduceCtorEq, ↓reduceIte, Int.reduceLT, Int.reduceLE, Int.reduceEq, Int.reduceNe]
  intro b1 b2
  refine CallVC.read (cmp_compare _ _) ?_
  rintro v Γ' ⟨rfl, rfl⟩
  simp -implicitDefEqProofs only [go_sem, Nat.reduceBEq, Nat.reduceAdd, Nat.reduceSub, Nat.reduceMul, Nat.reduceLeDiff, reduceCtorEq, ↓reduceIte, Int.reduceLT, Int.reduceLE, Int.reduceEq, Int.reduceNe]
  refine ⟨fun hne => Up.here ?_, fun heq => ?_⟩
  · subst hR
    exact ⟨rfl, by rw [ruleC, if_neg hne]⟩
  · refine CallVC.read (compare_syms hx hy) ?_
    rintro v Γ' ⟨rfl, rfl⟩
    simp -implicitDefEqProofs only [go_sem, Nat.reduceBEq, Nat.reduceAdd, Nat.reduceSub, Nat.reduceMul, Nat.reduceLeDiff, reduceCtorEq, ↓reduceIte, Int.reduceLT, Int.reduceLE, Int.reduceEq, Int.reduceNe]
    refine Up.here ?_
    subst hR
    exact ⟨rfl, by rw [ruleC, if_pos heq]⟩

/-- a symbol that is none of the grammar -/
def badSy (ts ns : Int) (s : Sy) : Bool := decide (s.n < 0) || (s.t && decide (ts ≤ s.n)) || (!s.t && decide (ns ≤ s.n))
/-- the fault of rule k: the errors 3, 2, 3, 6, or none -/
def faultAt (g : Gr) (k : Nat) (r : Ru) : Int :=
  if r.l < 0 ∨ g.ns ≤ r.l then 3 else if 4 < r.r.length then 2 else if r.r.any (badSy g.ts g.ns) = true then 3 else if r ∈ g.rs.take k then 6 else 0
def ckR (g : Gr) : Nat → Int
  | 0 => 0
  | k + 1 => if ckR g k ≠ 0 then ckR g k else match g.rs[k]? with | some r => faultAt g k r | none => 0
def badHead (g : Gr) : Prop := g.ts < 1 ∨ 8 < g.ts ∨ g.ns < 1 ∨ 10 < g.ns ∨ g.st < 0 ∨ g.ns ≤ g.st
instance (g : Gr) : Decidable (badHead g) := by unfold badHead; infer_instance
def ckF (g : Gr) : Int := if badHead g then 1 else if 32 < g.rs.length then 2 else ckR g g.rs.length
theorem ckR_stays {g : Gr} {k : Nat} (h : ckR g k ≠ 0) : ∀ {m : Nat}, k ≤ m → ckR g m = ckR g k
  | m, hm => by
    induction m with
    | zero => have : k = 0 := by omega
              subst this; rfl
    | succ m ih =>
      by_cases e : k = m + 1
      · subst e; rfl
      · have := ih (by omega)
        rw [ckR, if_pos (by rw [this]; exact h), this]
theorem ckR_step {g : Gr} {k : Nat} (hk : k < g.rs.length) (h : ckR g k = 0) : ckR g (k + 1) = faultAt g k g.rs[k] := by
  rw [ckR, if_neg (by simp [h]), List.getElem?_eq_getElem hk]
theorem ckR_fault {g : Gr} {k : Nat} (hk : k < g.rs.length) (h : ckR g k = 0) (hf : faultAt g k g.rs[k] ≠ 0) : ckR g g.rs.length = faultAt g k g.rs[k] := by
  have := ckR_step hk h
  rw [← this] at hf ⊢
  exact ckR_stays hf (by omega)

theorem gram_check {Γr : Ctx} {g : Gr} {A : Option Addr} {c : Nat} (hx : SlOk (lk Γr) A c g.rs) :
    Ret Try.prog 112 [.agg #[.int .i64 g.ts, .int .i64 g.ns, .int .i64 g.st, .slice A g.rs.length c]] Γr [] (fun v Γ => Γ = [] ∧ v = .int .i64 (ckF g)) := by
  generalize hR : (fun (v : Value) (Γ : Ctx) => Γ = [] ∧ _) = R
  refine ret_of_vc tr112 (Nat.le_of_ble_eq_true rfl) ?_
  simp -implicitDefEqProofs only [S112, S112_0, go_sem, Nat.reduceBEq, Nat.reduceAdd, Nat.reduceSub, Nat.reduceMul, Nat.reduceLeDiff, reduceCtorEq, ↓reduceIte, Int.reduceLT, Int.reduceLE, Int.reduceEq, Int.reduceNe]
  intro b
  refine ⟨fun h => Up.here ?_, fun hok => ⟨fun h => Up.here ?_, fun h32 => ?_⟩⟩
  · subst hR
    exact ⟨rfl, by rw [ckF, if_pos (by unfold badHead; omega)]⟩
  · subst hR
    exact ⟨rfl, by rw [ckF, if_neg (by unfold badHead; omega), if_pos (by omega)]⟩
  have hck : ckF g = ckR g g.rs.length := by rw [ckF, if_neg (by unfold badHead; omega), if_neg (by omega)]
  refine s_loop (fun f vs Γ => Γ = [] ∧ ∃ k : Nat, vs = [.v true (.int .i64 k)] ∧ k + f = g.rs.length ∧ ckR g k = 0) g.rs.length (Up.here ⟨rfl, 0, rfl, by omega, rfl⟩) ?_
  rintro f vs Γ ⟨rfl, k, rfl, hkf, hck0⟩
  simp -implicitDefEqProofs only [S112_3, go_sem, Nat.reduceBEq, Nat.reduceAdd, Nat.reduceSub, Nat.reduceMul, Nat.reduceLeDiff, reduceCtorEq, ↓reduceIte, Int.reduceLT, Int.reduceLE, Int.reduceEq, Int.reduceNe]
  refine ⟨fun hlt => ?_, fun hge => ?_⟩
  · have hk : k < g.rs.length := by omega
    have hgen : ∀ x, faultAt g k g.rs[k] = x → x ≠ 0 → ckF g = x := fun x h1 h2 => by rw [hck, ckR_fault hk hck0 (by rw [h1]; exact h2), h1]
    have hzero : faultAt g k g.rs[k] = 0 → ckR g (k + 1) = 0 := fun h => by rw [ckR_step hk hck0, h]
    obtain ⟨b1, o1, hA, A', c', hr, hc1⟩ := hx.ru hk
    have hrl := hr.short
    refine s_idx hA (by omega) (by omega) ?_
    simp -implicitDefEqProofs only [go_sem, Nat.reduceBEq, Nat.reduceAdd, Nat.reduceSub, Nat.reduceMul, Nat.reduceLeDiff, reduceCtorEq, ↓reduceIte, Int.reduceLT, Int.reduceLE, Int.reduceEq, Int.reduceNe]
    refine s_ld0 (hc1 _ (Mem.le.refl _)) (by simp) (by simp) ?_
    simp -implicitDefEqProofs only [go_sem, Nat.reduceBEq, Nat.reduceAdd, Nat.reduceSub, Nat.reduceMul, Nat.reduceLeDiff, reduceCtorEq, ↓reduceIte, Int.reduceLT, Int.reduceLE, Int.reduceEq, Int.reduceNe]
    intro b2
    refine ⟨fun h => Up.here ?_, fun hl => ⟨fun h => Up.here ?_, fun h4 => ?_⟩⟩
    · subst hR
      exact ⟨rfl, by rw [hgen 3 (by rw [faultAt, if_pos h]) (by decide)]⟩
    · subst hR
      exact ⟨rfl, by rw [hgen 2 (by rw [faultAt, if_neg (by omega), if_pos (by omega)]) (by decide)]⟩
    have hf1 : faultAt g k g.rs[k] = if g.rs[k].r.any (badSy g.ts g.ns) = true then 3 else if g.rs[k] ∈ g.rs.take k then 6 else 0 := by
      rw [faultAt, if_neg (by omega), if_neg (by omega)]
    refine s_loop (fun f' vs Γ => Γ = [] ∧ ∃ j : Nat, vs = [.v true (.int .i64 j)] ∧ j + f' = g.rs[k].r.length ∧ ∀ (i : Nat) (h : i < g.rs[k].r.length), i < j → badSy g.ts g.ns g.rs[k].r[i] = false) g.rs[k].r.length (Up.here ⟨rfl, 0, rfl, by omega, by intro i _ h; omega⟩) ?_
    rintro f' vs Γ ⟨rfl, j, rfl, hjf, hno⟩
    simp -implicitDefEqProofs only [S112_1, go_sem, Nat.reduceBEq, Nat.reduceAdd, Nat.reduceSub, Nat.reduceMul, Nat.reduceLeDiff, reduceCtorEq, ↓reduceIte, Int.reduceLT, Int.reduceLE, Int.reduceEq, Int.reduceNe]
    refine ⟨fun hlt => ?_, fun hge => ?_⟩
    · have hj : j < g.rs[k].r.length := by omega
      obtain ⟨b3, o3, hA3, hc3⟩ := hr.sy hj
      refine s_idx hA3 (by omega) (by omega) ?_
      simp -implicitDefEqProofs only [go_sem, Nat.reduceBEq, Nat.reduceAdd, Nat.reduceSub, Nat.reduceMul, Nat.reduceLeDiff, reduceCtorEq, ↓reduceIte, Int.reduceLT, Int.reduceLE, Int.reduceEq, Int.reduceNe]
      refine s_ld0 (hc3 _ (Mem.le.refl _)) (by simp) (by simp) ?_
      simp -implicitDefEqProofs only [go_sem, Nat.reduceBEq, Nat.reduceAdd, Nat.reduceSub, Nat.reduceMul, Nat.reduceLeDiff, reduceCtorEq, ↓reduceIte, Int.reduceLT, Int.reduceLE, Int.reduceEq, Int.reduceNe]
      simp (disch := omega) only [wrap_id]
      refine ⟨fun h1 h2 => ⟨h1, h2⟩, fun h1 h2 => ⟨h1, h2⟩, fun h => Up.here ?_, fun h => ?_⟩
      · have hb : g.rs[k].r.any (badSy g.ts g.ns) = true := List.any_eq_true.2 ⟨g.rs[k].r[j], List.getElem_mem hj, by
          simp only [badSy, Bool.or_eq_true, Bool.and_eq_true, decide_eq_true_eq, Bool.not_eq_true']; exact h⟩
        subst hR
        exact ⟨rfl, by rw [hgen 3 (by rw [hf1, if_pos hb]) (by decide)]⟩
      · exact ⟨f' - 1, by omega, Up.here ⟨rfl, j + 1, rfl, by omega, fun i hi hij => by
          by_cases e : i = j
          · subst e
            simp only [badSy, Bool.or_eq_false_iff, Bool.and_eq_false_iff, decide_eq_false_iff_not, Bool.not_eq_false']; exact h
          · exact hno i hi (by omega)⟩⟩
    have hnb : ¬ (g.rs[k].r.any (badSy g.ts g.ns) = true) := by
      intro h
      obtain ⟨x, hx, hb⟩ := List.any_eq_true.1 h
      obtain ⟨i, hi, rfl⟩ := List.getElem_of_mem hx
      rw [hno i hi (by omega)] at hb
      cases hb
    have hf2 : faultAt g k g.rs[k] = if g.rs[k] ∈ g.rs.take k then 6 else 0 := by rw [hf1, if_neg hnb]
    refine s_hi k (by simp -implicitDefEqProofs only [go_sem, Nat.reduceBEq, Nat.reduceAdd, Nat.reduceSub, Nat.reduceMul, Nat.reduceLeDiff, reduceCtorEq, ↓reduceIte, Int.reduceLT, Int.reduceLE, Int.reduceEq, Int.reduceNe]; exact ⟨_, rfl⟩) (by have := hx.cap; omega) ?_
    simp -implicitDefEqProofs only [go_sem, Nat.reduceBEq, Nat.reduceAdd, Nat.reduceSub, Nat.reduceMul, Nat.reduceLeDiff, reduceCtorEq, ↓reduceIte, Int.reduceLT, Int.reduceLE, Int.reduceEq, Int.reduceNe]
    refine s_loop (fun f' vs Γ => Γ = [] ∧ ∃ j : Nat, vs = [.v true (.int .i64 j)] ∧ j + f' = k ∧ ∀ (i : Nat) (h : i < g.rs.length), i < j → g.rs[i] ≠ g.rs[k]) k (Up.here ⟨rfl, 0, rfl, by omega, by intro i _ h; omega⟩) ?_
    rintro f' vs Γ ⟨rfl, j, rfl, hjf, hne⟩
    simp -implicitDefEqProofs only [S112_2, go_sem, Nat.reduceBEq, Nat.reduceAdd, Nat.reduceSub, Nat.reduceMul, Nat.reduceLeDiff, reduceCtorEq, ↓reduceIte, Int.reduceLT, Int.reduceLE, Int.reduceEq, Int.reduceNe]
    refine ⟨fun hlt => ?_, fun hge => ?_⟩
    · have hj : j < g.rs.length := by omega
      obtain ⟨b3, o3, hA3, A4, c4, hr4, hc3⟩ := hx.ru hj
      refine s_idx hA3 (by omega) (by omega) ?_
      simp -implicitDefEqProofs only [go_sem, Nat.reduceBEq, Nat.reduceAdd, Nat.reduceSub, Nat.reduceMul, Nat.reduceLeDiff, reduceCtorEq, ↓reduceIte, Int.reduceLT, Int.reduceLE, Int.reduceEq, Int.reduceNe]
      refine s_ld0 (hc3 _ (Mem.le.refl _)) (by simp) (by simp) ?_
      simp -implicitDefEqProofs only [go_sem, Nat.reduceBEq, Nat.reduceAdd, Nat.reduceSub, Nat.reduceMul, Nat.reduceLeDiff, reduceCtorEq, ↓reduceIte, Int.reduceLT, Int.reduceLE, Int.reduceEq, Int.reduceNe]
      intro b5
      refine CallVC.read (gram_compare hr4 hr) ?_
      rintro v Γ' ⟨rfl, rfl⟩
      simp -implicitDefEqProofs only [go_sem, Nat.reduceBEq, Nat.reduceAdd, Nat.reduceSub, Nat.reduceMul, Nat.reduceLeDiff, reduceCtorEq, ↓reduceIte, Int.reduceLT, Int.reduceLE, Int.reduceEq, Int.reduceNe]
      refine ⟨fun h => Up.here ?_, fun h => ?_⟩
      · have hin : g.rs[k] ∈ g.rs.take k := by
          rw [← ruleC_zero.1 h, List.mem_take_iff_getElem]
          exact ⟨j, by omega, rfl⟩
        subst hR
        exact ⟨rfl, by rw [hgen 6 (by rw [hf2, if_pos hin]) (by decide)]⟩
      · simp (disch := omega) only [wrap_id]
        exact ⟨f' - 1, by omega, Up.here ⟨rfl, j + 1, rfl, by omega, fun i hi hij => by
          by_cases e : i = j
          · subst e; exact fun q => h (ruleC_zero.2 q)
          · exact hne i hi (by omega)⟩⟩
    · have hin : ¬ g.rs[k] ∈ g.rs.take k := by
        rw [List.mem_take_iff_getElem]
        rintro ⟨i, hi, e⟩
        exact hne i (by omega) (by omega) e
      simp (disch := omega) only [wrap_id]
      exact ⟨f - 1, by omega, Up.here ⟨rfl, k + 1, rfl, by omega, hzero (by rw [hf2, if_neg hin])⟩⟩
  · have hk : k = g.rs.length := by omega
    subst hk
    refine Up.here ?_
    subst hR
    exact ⟨rfl, by rw [hck, hck0]⟩
end Go.Proofs.Ytniobbepliknmaa.V
/- The text of parlance/lens.sums as a statement (slots: 0 l, 1 has, 2 n, 3 l, 4 has, 5 n, 7 at, 8 _, 9 s, 10 next, 11 k, 12 ok, 13 j); no condition. -/
namespace Go.Proofs.Ytniobbepliknmaa.V
open Go
def S113_1 : Stmt :=
  Stmt.seq
  (Stmt.region [SOper.mk (some 42) none (SOp.ibin BinOp.lss (Operand.tmp 41) (Operand.tmp 40))]
    [1, 2, 9, 10, 11, 19, 20, 21, 28, 29, 30, 40, 41, 42])
  (Stmt.seq (Stmt.cond (Operand.tmp 42) Stmt.skip (Stmt.exit 4))
    (Stmt.seq
      (Stmt.block 5
        (Stmt.seq
          (Stmt.region
            [SOper.mk (some 43) none (SOp.mv (Operand.tmp 41)), SOper.mk (some 13) none (SOp.mv (Operand.tmp 43))]
            [1, 2, 9, 10, 11, 13, 19, 20, 21, 28, 29, 30, 40, 41])
          (Stmt.region
            [SOper.mk (some 44) none (SOp.mv (Operand.tmp 10)), SOper.mk (some 45) none (SOp.mv (Operand.tmp 11)),
              SOper.mk (some 46) none (SOp.mv (Operand.tmp 13)),
              SOper.mk (some 47) none (SOp.ibin BinOp.add (Operand.tmp 45) (Operand.tmp 46)),
              SOper.mk (some 48) none (SOp.mv (Operand.tmp 10)), SOper.mk (some 49) none (SOp.mv (Operand.tmp 11)),
              SOper.mk (some 50) none (SOp.mv (Operand.tmp 13)),
              SOper.mk (some 51) none (SOp.ibin BinOp.add (Operand.tmp 49) (Operand.tmp 50)),
              SOper.mk (some 52) none (SOp.idx 1 (Operand.tmp 48) (Operand.tmp 51)),
              SOper.mk (some 53) none (SOp.load false 1 (Operand.tmp 52)),
              SOper.mk (some 54) none (SOp.mv (Operand.tmp 53)),
              SOper.mk (some 55) (some (54, false)) (SOp.fld 0 (Operand.tmp 9)),
              SOper.mk (some 56) (some (54, false)) (SOp.load false 1 (Operand.tmp 55)),
              SOper.mk (some 57) (some (54, false)) (SOp.mv (Operand.tmp 56)),
              SOper.mk (some 58) (some (57, true)) (SOp.mv (Operand.tmp 13)),
              SOper.mk (some 59) (some (57, true))
                (SOp.ibin BinOp.eql (Operand.tmp 58) (Operand.const (Value.int IntKind.i64 1))),
              SOper.mk (some 60) (some (54, false))
                (SOp.pick (Operand.tmp 57) (Operand.tmp 59) (Operand.const (Value.bool false))),
              SOper.mk (some 61) none (SOp.pick (Operand.tmp 54) (Operand.const (Value.bool true)) (Operand.tmp 60)),
              SOper.mk (some 62) none (SOp.mv (Operand.tmp 61)),
              SOper.mk (some 63) (some (62, false)) (SOp.fld 0 (Operand.tmp 9)),
              SOper.mk (some 64) (some (62, false)) (SOp.load false 1 (Operand.tmp 63)),
              SOper.mk (some 65) (some (62, false)) (SOp.un UnOp.not (Operand.tmp 64)),
              SOper.mk (some 66) (some (62, false)) (SOp.mv (Operand.tmp 65)),
              SOper.mk (some 67) (some (66, true)) (SOp.mv (Operand.tmp 1)),
              SOper.mk (some 68) (some (66, true)) (SOp.fld 1 (Operand.tmp 9)),
              SOper.mk (some 69) (some (66, true)) (SOp.load false 1 (Operand.tmp 68)),
              SOper.mk (some 70) (some (66, true)) (SOp.idx 1 (Operand.tmp 67) (Operand.tmp 69)),
              SOper.mk (some 71) (some (66, true)) (SOp.load false 1 (Operand.tmp 70)),
              SOper.mk (some 72) (some (66, true)) (SOp.mv (Operand.tmp 13)),
              SOper.mk (some 73) (some (66, true)) (SOp.idx 1 (Operand.tmp 71) (Operand.tmp 72)),
              SOper.mk (some 74) (some (66, true)) (SOp.load false 1 (Operand.tmp 73)),
              SOper.mk (some 75) (some (62, false))
                (SOp.pick (Operand.tmp 66) (Operand.tmp 74) (Operand.const (Value.bool false))),
              SOper.mk (some 76) none (SOp.pick (Operand.tmp 62) (Operand.const (Value.bool true)) (Operand.tmp 75)),
              SOper.mk (some 77) none (SOp.idx 1 (Operand.tmp 44) (Operand.tmp 47)),
              SOper.mk none none (SOp.store 1 (Operand.tmp 77) (Operand.tmp 76))]
            [1, 2, 9, 10, 11, 19, 20, 21, 28, 29, 30, 40, 41])))
      (Stmt.region
        [SOper.mk (some 78) none (SOp.ibin BinOp.add (Operand.tmp 41) (Operand.const (Value.int IntKind.i64 1))),
          SOper.mk (some 41) none (SOp.mv (Operand.tmp 78))]
        [1, 2, 9, 10, 11, 19, 20, 21, 28, 29, 30, 40, 41])))
def S113_2 : Stmt :=
  Stmt.block 3
  (Stmt.seq
    (Stmt.region
      [SOper.mk (some 32) none (SOp.mv (Operand.tmp 30)),
        SOper.mk (some 33) none (SOp.idx 1 (Operand.tmp 28) (Operand.tmp 30)),
        SOper.mk (some 34) none (SOp.load false 1 (Operand.tmp 33)), SOper.mk (some 11) none (SOp.mv (Operand.tmp 32)),
        SOper.mk (some 12) none (SOp.mv (Operand.tmp 34))]
      [1, 2, 9, 10, 11, 12, 19, 20, 21, 28, 29, 30])
    (Stmt.seq
      (Stmt.seq
        (Stmt.region
          [SOper.mk (some 35) none (SOp.mv (Operand.tmp 12)),
            SOper.mk (some 36) none (SOp.un UnOp.not (Operand.tmp 35))]
          [1, 2, 9, 10, 11, 19, 20, 21, 28, 29, 30, 36])
        (Stmt.cond (Operand.tmp 36) (Stmt.exit 3) Stmt.skip))
      (Stmt.seq
        (Stmt.region
          [SOper.mk (some 37) none (SOp.mv (Operand.tmp 2)),
            SOper.mk (some 38) none (SOp.ibin BinOp.add (Operand.tmp 37) (Operand.const (Value.int IntKind.i64 1))),
            SOper.mk (some 39) none (SOp.mv (Operand.tmp 11)),
            SOper.mk (some 40) none (SOp.ibin BinOp.sub (Operand.tmp 38) (Operand.tmp 39)),
            SOper.mk (some 41) none (SOp.mv (Operand.const (Value.int IntKind.i64 0)))]
          [1, 2, 9, 10, 11, 19, 20, 21, 28, 29, 30, 40, 41])
        (Stmt.block 4 (Stmt.loop S113_1 [41] [1, 2, 9, 10, 11, 19, 20, 21, 28, 29, 30, 40])))))
def S113_3 : Stmt :=
  Stmt.region
  [SOper.mk (some 79) none (SOp.ibin BinOp.add (Operand.tmp 30) (Operand.const (Value.int IntKind.i64 1))),
    SOper.mk (some 30) none (SOp.mv (Operand.tmp 79))]
  [1, 2, 9, 10, 19, 20, 21, 28, 29, 30]
def S113_4 : Stmt :=
  Stmt.seq
  (Stmt.region [SOper.mk (some 31) none (SOp.ibin BinOp.lss (Operand.tmp 30) (Operand.tmp 29))]
    [1, 2, 9, 10, 19, 20, 21, 28, 29, 30, 31])
  (Stmt.seq (Stmt.cond (Operand.tmp 31) Stmt.skip (Stmt.exit 2))
    (Stmt.join S113_2 S113_3 [] [1, 2, 9, 10, 19, 20, 21, 28, 29, 30]))
def S113_5 : Stmt :=
  Stmt.seq
  (Stmt.region [SOper.mk (some 22) none (SOp.ibin BinOp.lss (Operand.tmp 21) (Operand.tmp 20))]
    [1, 2, 7, 19, 20, 21, 22])
  (Stmt.seq (Stmt.cond (Operand.tmp 22) Stmt.skip (Stmt.exit 0))
    (Stmt.seq
      (Stmt.block 1
        (Stmt.seq
          (Stmt.region
            [SOper.mk (some 23) none (SOp.idx 2 (Operand.tmp 19) (Operand.tmp 21)),
              SOper.mk (some 24) none (SOp.load true 2 (Operand.tmp 23)),
              SOper.mk (some 9) none
                (SOp.alloc true 39 (Value.agg (Array.mk [Value.bool false, Value.int IntKind.i64 0]))),
              SOper.mk none none (SOp.store 2 (Operand.tmp 9) (Operand.tmp 24))]
            [1, 2, 7, 9, 19, 20, 21])
          (Stmt.seq
            (Stmt.region
              [SOper.mk (some 25) none (SOp.mv (Operand.tmp 2)),
                SOper.mk (some 26) none (SOp.ibin BinOp.add (Operand.tmp 25) (Operand.const (Value.int IntKind.i64 1))),
                SOper.mk (some 27) none (SOp.mk 4 1 1 (Value.bool false) (Operand.tmp 26) (Operand.tmp 26)),
                SOper.mk (some 10) none (SOp.mv (Operand.tmp 27))]
              [1, 2, 7, 9, 10, 19, 20, 21])
            (Stmt.seq
              (Stmt.seq
                (Stmt.region
                  [SOper.mk (some 28) none (SOp.mv (Operand.tmp 7)),
                    SOper.mk (some 29) none (SOp.len false (Operand.tmp 28)),
                    SOper.mk (some 30) none (SOp.mv (Operand.const (Value.int IntKind.i64 0)))]
                  [1, 2, 9, 10, 19, 20, 21, 28, 29, 30])
                (Stmt.block 2 (Stmt.loop S113_4 [30] [1, 2, 9, 10, 19, 20, 21, 28, 29])))
              (Stmt.region
                [SOper.mk (some 80) none (SOp.mv (Operand.tmp 10)), SOper.mk (some 7) none (SOp.mv (Operand.tmp 80))]
                [1, 2, 7, 19, 20, 21])))))
      (Stmt.region
        [SOper.mk (some 81) none (SOp.ibin BinOp.add (Operand.tmp 21) (Operand.const (Value.int IntKind.i64 1))),
          SOper.mk (some 21) none (SOp.mv (Operand.tmp 81))]
        [1, 2, 7, 19, 20, 21])))
def S113_0 : Stmt :=
  Stmt.seq (Stmt.region [SOper.mk (some 6) none (SOp.mv (Operand.const (Value.slice none 0 0)))] [0, 1, 2])
  (Stmt.seq
    (Stmt.region
      [SOper.mk (some 14) none (SOp.mv (Operand.tmp 2)),
        SOper.mk (some 15) none (SOp.ibin BinOp.add (Operand.tmp 14) (Operand.const (Value.int IntKind.i64 1))),
        SOper.mk (some 16) none (SOp.mk 4 1 1 (Value.bool false) (Operand.tmp 15) (Operand.tmp 15)),
        SOper.mk (some 7) none (SOp.mv (Operand.tmp 16))]
      [0, 1, 2, 7])
    (Stmt.seq
      (Stmt.region
        [SOper.mk (some 17) none (SOp.mv (Operand.tmp 7)),
          SOper.mk (some 18) none (SOp.idx 1 (Operand.tmp 17) (Operand.const (Value.int IntKind.i64 0))),
          SOper.mk none none (SOp.store 1 (Operand.tmp 18) (Operand.const (Value.bool true)))]
        [0, 1, 2, 7])
      (Stmt.seq
        (Stmt.seq
          (Stmt.region
            [SOper.mk (some 19) none (SOp.mv (Operand.tmp 0)), SOper.mk (some 20) none (SOp.len false (Operand.tmp 19)),
              SOper.mk (some 21) none (SOp.mv (Operand.const (Value.int IntKind.i64 0)))]
            [1, 2, 7, 19, 20, 21])
          (Stmt.block 0 (Stmt.loop S113_5 [7, 21] [1, 2, 19, 20])))
        (Stmt.seq
          (Stmt.region
            [SOper.mk (some 82) none (SOp.mv (Operand.tmp 7)), SOper.mk (some 6) none (SOp.mv (Operand.tmp 82))] [6])
          Stmt.ret))))
def S113 : FnS := ⟨83, [(6, none)], S113_0⟩
theorem tr113 : trFn Try.prog 113 [9] [[0, 1, 2], [0, 1, 2, 7], [0, 1, 2, 7], [1, 2, 7, 19, 20, 21], [7, 21], [1, 2, 19, 20], [1, 2, 7, 19, 20, 21, 22], [1, 2, 7, 9, 19, 20, 21], [1, 2, 7, 9, 10, 19, 20, 21], [1, 2, 9, 10, 19, 20, 21, 28, 29, 30], [30], [1, 2, 9, 10, 19, 20, 21, 28, 29], [1, 2, 9, 10, 19, 20, 21, 28, 29, 30, 31], [], [1, 2, 9, 10, 19, 20, 21, 28, 29, 30], [1, 2, 9, 10, 11, 12, 19, 20, 21, 28, 29, 30], [1, 2, 9, 10, 11, 19, 20, 21, 28, 29, 30, 36], [1, 2, 9, 10, 11, 19, 20, 21, 28, 29, 30, 40, 41], [41], [1, 2, 9, 10, 11, 19, 20, 21, 28, 29, 30, 40], [1, 2, 9, 10, 11, 19, 20, 21, 28, 29, 30, 40, 41, 42], [1, 2, 9, 10, 11, 13, 19, 20, 21, 28, 29, 30, 40, 41], [1, 2, 9, 10, 11, 19, 20, 21, 28, 29, 30, 40, 41], [1, 2, 9, 10, 11, 19, 20, 21, 28, 29, 30, 40, 41], [1, 2, 9, 10, 19, 20, 21, 28, 29, 30], [1, 2, 7, 19, 20, 21], [1, 2, 7, 19, 20, 21], [6]] = some S113 := by kernel_rfl
end Go.Proofs.Ytniobbepliknmaa.V
/- The text of parlance/lens.Set as a statement (slots: 0 g, 1 n, 2 g, 3 n, 6 e, 7 has, 8 a, 9 again, 10 _, 11 r, 12 k, 13 ok); no condition. -/
namespace Go.Proofs.Ytniobbepliknmaa.V
open Go
def S39_1 : Stmt :=
  Stmt.seq
  (Stmt.region [SOper.mk (some 31) none (SOp.ibin BinOp.lss (Operand.tmp 30) (Operand.tmp 29))] [1, 2, 7, 29, 30, 31])
  (Stmt.seq (Stmt.cond (Operand.tmp 31) Stmt.skip (Stmt.exit 0))
    (Stmt.seq
      (Stmt.block 1
        (Stmt.seq
          (Stmt.region
            [SOper.mk (some 32) none (SOp.mv (Operand.tmp 30)), SOper.mk (some 8) none (SOp.mv (Operand.tmp 32))]
            [1, 2, 7, 8, 29, 30])
          (Stmt.region
            [SOper.mk (some 33) none (SOp.mv (Operand.tmp 7)), SOper.mk (some 34) none (SOp.mv (Operand.tmp 8)),
              SOper.mk (some 35) none (SOp.mv (Operand.tmp 1)),
              SOper.mk (some 36) none (SOp.ibin BinOp.add (Operand.tmp 35) (Operand.const (Value.int IntKind.i64 1))),
              SOper.mk (some 37) none (SOp.mk 4 1 1 (Value.bool false) (Operand.tmp 36) (Operand.tmp 36)),
              SOper.mk (some 38) none (SOp.idx 1 (Operand.tmp 33) (Operand.tmp 34)),
              SOper.mk none none (SOp.store 1 (Operand.tmp 38) (Operand.tmp 37))]
            [1, 2, 7, 29, 30])))
      (Stmt.region
        [SOper.mk (some 39) none (SOp.ibin BinOp.add (Operand.tmp 30) (Operand.const (Value.int IntKind.i64 1))),
          SOper.mk (some 30) none (SOp.mv (Operand.tmp 39))]
        [1, 2, 7, 29, 30])))
def S39_2 : Stmt :=
  Stmt.block 7
  (Stmt.seq
    (Stmt.region
      [SOper.mk (some 56) none (SOp.mv (Operand.tmp 54)),
        SOper.mk (some 57) none (SOp.idx 1 (Operand.tmp 52) (Operand.tmp 54)),
        SOper.mk (some 58) none (SOp.load false 1 (Operand.tmp 57)), SOper.mk (some 12) none (SOp.mv (Operand.tmp 56)),
        SOper.mk (some 13) none (SOp.mv (Operand.tmp 58))]
      [1, 2, 7, 9, 11, 12, 13, 42, 43, 44, 52, 53, 54])
    (Stmt.seq
      (Stmt.region
        [SOper.mk (some 59) none (SOp.mv (Operand.tmp 13)), SOper.mk (some 60) none (SOp.mv (Operand.tmp 59)),
          SOper.mk (some 61) (some (60, true)) (SOp.mv (Operand.tmp 7)),
          SOper.mk (some 62) (some (60, true)) (SOp.fld 0 (Operand.tmp 11)),
          SOper.mk (some 63) (some (60, true)) (SOp.load false 1 (Operand.tmp 62)),
          SOper.mk (some 64) (some (60, true)) (SOp.idx 1 (Operand.tmp 61) (Operand.tmp 63)),
          SOper.mk (some 65) (some (60, true)) (SOp.load false 1 (Operand.tmp 64)),
          SOper.mk (some 66) (some (60, true)) (SOp.mv (Operand.tmp 12)),
          SOper.mk (some 67) (some (60, true)) (SOp.idx 1 (Operand.tmp 65) (Operand.tmp 66)),
          SOper.mk (some 68) (some (60, true)) (SOp.load false 1 (Operand.tmp 67)),
          SOper.mk (some 69) (some (60, true)) (SOp.un UnOp.not (Operand.tmp 68)),
          SOper.mk (some 70) none (SOp.pick (Operand.tmp 60) (Operand.tmp 69) (Operand.const (Value.bool false)))]
        [1, 2, 7, 9, 11, 12, 42, 43, 44, 52, 53, 54, 70])
      (Stmt.cond (Operand.tmp 70)
        (Stmt.region
          [SOper.mk (some 71) none (SOp.mv (Operand.tmp 7)), SOper.mk (some 72) none (SOp.fld 0 (Operand.tmp 11)),
            SOper.mk (some 73) none (SOp.load false 1 (Operand.tmp 72)),
            SOper.mk (some 74) none (SOp.idx 1 (Operand.tmp 71) (Operand.tmp 73)),
            SOper.mk (some 75) none (SOp.load false 1 (Operand.tmp 74)),
            SOper.mk (some 76) none (SOp.mv (Operand.tmp 12)),
            SOper.mk (some 77) none (SOp.idx 1 (Operand.tmp 75) (Operand.tmp 76)),
            SOper.mk none none (SOp.store 1 (Operand.tmp 77) (Operand.const (Value.bool true))),
            SOper.mk (some 9) none (SOp.mv (Operand.const (Value.bool true)))]
          [1, 2, 7, 9, 11, 42, 43, 44, 52, 53, 54])
        Stmt.skip)))
def S39_3 : Stmt :=
  Stmt.region
  [SOper.mk (some 78) none (SOp.ibin BinOp.add (Operand.tmp 54) (Operand.const (Value.int IntKind.i64 1))),
    SOper.mk (some 54) none (SOp.mv (Operand.tmp 78))]
  [1, 2, 7, 9, 11, 42, 43, 44, 52, 53, 54]
def S39_4 : Stmt :=
  Stmt.seq
  (Stmt.region [SOper.mk (some 55) none (SOp.ibin BinOp.lss (Operand.tmp 54) (Operand.tmp 53))]
    [1, 2, 7, 9, 11, 42, 43, 44, 52, 53, 54, 55])
  (Stmt.seq (Stmt.cond (Operand.tmp 55) Stmt.skip (Stmt.exit 6))
    (Stmt.join S39_2 S39_3 [9] [1, 2, 7, 11, 42, 43, 44, 52, 53, 54]))
def S39_5 : Stmt :=
  Stmt.seq
  (Stmt.region [SOper.mk (some 45) none (SOp.ibin BinOp.lss (Operand.tmp 44) (Operand.tmp 43))]
    [1, 2, 7, 9, 42, 43, 44, 45])
  (Stmt.seq (Stmt.cond (Operand.tmp 45) Stmt.skip (Stmt.exit 4))
    (Stmt.seq
      (Stmt.block 5
        (Stmt.seq
          (Stmt.region
            [SOper.mk (some 46) none (SOp.idx 2 (Operand.tmp 42) (Operand.tmp 44)),
              SOper.mk (some 47) none (SOp.load true 2 (Operand.tmp 46)),
              SOper.mk (some 11) none
                (SOp.alloc true 37 (Value.agg (Array.mk [Value.int IntKind.i64 0, Value.slice none 0 0]))),
              SOper.mk none none (SOp.store 2 (Operand.tmp 11) (Operand.tmp 47))]
            [1, 2, 7, 9, 11, 42, 43, 44])
          (Stmt.seq
            (Stmt.region
              [SOper.mk (some 48) none (SOp.fld 1 (Operand.tmp 11)),
                SOper.mk (some 49) none (SOp.load false 1 (Operand.tmp 48)),
                SOper.mk (some 50) none (SOp.mv (Operand.tmp 7)), SOper.mk (some 51) none (SOp.mv (Operand.tmp 1)),
                SOper.mk (some 52) none (SOp.call (Operand.func 113) [Operand.tmp 49, Operand.tmp 50, Operand.tmp 51]),
                SOper.mk (some 53) none (SOp.len false (Operand.tmp 52)),
                SOper.mk (some 54) none (SOp.mv (Operand.const (Value.int IntKind.i64 0)))]
              [1, 2, 7, 9, 11, 42, 43, 44, 52, 53, 54])
            (Stmt.block 6 (Stmt.loop S39_4 [9, 54] [1, 2, 7, 11, 42, 43, 44, 52, 53])))))
      (Stmt.region
        [SOper.mk (some 79) none (SOp.ibin BinOp.add (Operand.tmp 44) (Operand.const (Value.int IntKind.i64 1))),
          SOper.mk (some 44) none (SOp.mv (Operand.tmp 79))]
        [1, 2, 7, 9, 42, 43, 44])))
def S39_6 : Stmt :=
  Stmt.seq
  (Stmt.seq (Stmt.region [SOper.mk (some 40) none (SOp.mv (Operand.tmp 9))] [1, 2, 7, 40])
    (Stmt.cond (Operand.tmp 40) Stmt.skip (Stmt.exit 2)))
  (Stmt.block 3
    (Stmt.seq (Stmt.region [SOper.mk (some 9) none (SOp.mv (Operand.const (Value.bool false)))] [1, 2, 7, 9])
      (Stmt.seq
        (Stmt.region
          [SOper.mk (some 41) none (SOp.fld 3 (Operand.tmp 2)),
            SOper.mk (some 42) none (SOp.load false 1 (Operand.tmp 41)),
            SOper.mk (some 43) none (SOp.len false (Operand.tmp 42)),
            SOper.mk (some 44) none (SOp.mv (Operand.const (Value.int IntKind.i64 0)))]
          [1, 2, 7, 9, 42, 43, 44])
        (Stmt.block 4 (Stmt.loop S39_5 [9, 44] [1, 2, 7, 42, 43])))))
def S39_0 : Stmt :=
  Stmt.seq
  (Stmt.region
    [SOper.mk (some 2) none (SOp.box true 57 (Operand.tmp 0)),
      SOper.mk (some 4) none (SOp.mv (Operand.const (Value.slice none 0 0))),
      SOper.mk (some 5) none (SOp.mv (Operand.const (Value.int IntKind.i64 0)))]
    [1, 2])
  (Stmt.seq
    (Stmt.seq
      (Stmt.region
        [SOper.mk (some 14) none (SOp.load true 4 (Operand.tmp 2)),
          SOper.mk (some 15) none (SOp.call (Operand.func 112) [Operand.tmp 14]),
          SOper.mk (some 6) none (SOp.mv (Operand.tmp 15))]
        [1, 2, 6])
      (Stmt.seq
        (Stmt.region
          [SOper.mk (some 16) none (SOp.mv (Operand.tmp 6)),
            SOper.mk (some 17) none (SOp.ibin BinOp.neq (Operand.tmp 16) (Operand.const (Value.int IntKind.i64 0)))]
          [1, 2, 6, 17])
        (Stmt.cond (Operand.tmp 17)
          (Stmt.seq
            (Stmt.region
              [SOper.mk (some 18) none (SOp.mv (Operand.tmp 6)),
                SOper.mk (some 4) none (SOp.mv (Operand.const (Value.slice none 0 0))),
                SOper.mk (some 5) none (SOp.mv (Operand.tmp 18))]
              [4, 5])
            Stmt.ret)
          Stmt.skip)))
    (Stmt.seq
      (Stmt.seq
        (Stmt.region
          [SOper.mk (some 19) none (SOp.mv (Operand.tmp 1)),
            SOper.mk (some 20) none (SOp.ibin BinOp.lss (Operand.tmp 19) (Operand.const (Value.int IntKind.i64 0))),
            SOper.mk (some 21) none (SOp.mv (Operand.tmp 20)),
            SOper.mk (some 22) (some (21, false)) (SOp.mv (Operand.tmp 1)),
            SOper.mk (some 23) (some (21, false))
              (SOp.ibin BinOp.gtr (Operand.tmp 22) (Operand.const (Value.int IntKind.i64 200))),
            SOper.mk (some 24) none (SOp.pick (Operand.tmp 21) (Operand.const (Value.bool true)) (Operand.tmp 23))]
          [1, 2, 24])
        (Stmt.cond (Operand.tmp 24)
          (Stmt.seq
            (Stmt.region
              [SOper.mk (some 4) none (SOp.mv (Operand.const (Value.slice none 0 0))),
                SOper.mk (some 5) none (SOp.mv (Operand.const (Value.int IntKind.i64 1)))]
              [4, 5])
            Stmt.ret)
          Stmt.skip))
      (Stmt.seq
        (Stmt.region
          [SOper.mk (some 25) none (SOp.fld 1 (Operand.tmp 2)),
            SOper.mk (some 26) none (SOp.load false 1 (Operand.tmp 25)),
            SOper.mk (some 27) none (SOp.mk 22 1 24 (Value.slice none 0 0) (Operand.tmp 26) (Operand.tmp 26)),
            SOper.mk (some 7) none (SOp.mv (Operand.tmp 27))]
          [1, 2, 7])
        (Stmt.seq
          (Stmt.seq
            (Stmt.region
              [SOper.mk (some 28) none (SOp.mv (Operand.tmp 7)),
                SOper.mk (some 29) none (SOp.len false (Operand.tmp 28)),
                SOper.mk (some 30) none (SOp.mv (Operand.const (Value.int IntKind.i64 0)))]
              [1, 2, 7, 29, 30])
            (Stmt.block 0 (Stmt.loop S39_1 [30] [1, 2, 7, 29])))
          (Stmt.seq
            (Stmt.seq (Stmt.region [SOper.mk (some 9) none (SOp.mv (Operand.const (Value.bool true)))] [1, 2, 7, 9])
              (Stmt.block 2 (Stmt.loop S39_6 [9] [1, 2, 7])))
            (Stmt.seq
              (Stmt.region
                [SOper.mk (some 80) none (SOp.mv (Operand.tmp 7)), SOper.mk (some 81) none (SOp.fld 2 (Operand.tmp 2)),
                  SOper.mk (some 82) none (SOp.load false 1 (Operand.tmp 81)),
                  SOper.mk (some 83) none (SOp.idx 1 (Operand.tmp 80) (Operand.tmp 82)),
                  SOper.mk (some 84) none (SOp.load false 1 (Operand.tmp 83)),
                  SOper.mk (some 4) none (SOp.mv (Operand.tmp 84)),
                  SOper.mk (some 5) none (SOp.mv (Operand.const (Value.int IntKind.i64 0)))]
                [4, 5])
              Stmt.ret))))))
def S39 : FnS := ⟨85, [(4, none), (5, none)], S39_0⟩
theorem tr39 : trFn Try.prog 39 [2, 11] [[1, 2], [1, 2, 6], [1, 2, 6, 17], [4, 5], [1, 2, 24], [4, 5], [1, 2, 7], [1, 2, 7, 29, 30], [30], [1, 2, 7, 29], [1, 2, 7, 29, 30, 31], [1, 2, 7, 8, 29, 30], [1, 2, 7, 29, 30], [1, 2, 7, 29, 30], [1, 2, 7, 9], [9], [1, 2, 7], [1, 2, 7, 40], [1, 2, 7, 9], [1, 2, 7, 9, 42, 43, 44], [9, 44], [1, 2, 7, 42, 43], [1, 2, 7, 9, 42, 43, 44, 45], [1, 2, 7, 9, 11, 42, 43, 44], [1, 2, 7, 9, 11, 42, 43, 44, 52, 53, 54], [9, 54], [1, 2, 7, 11, 42, 43, 44, 52, 53], [1, 2, 7, 9, 11, 42, 43, 44, 52, 53, 54, 55], [9], [1, 2, 7, 11, 42, 43, 44, 52, 53, 54], [1, 2, 7, 9, 11, 12, 13, 42, 43, 44, 52, 53, 54], [1, 2, 7, 9, 11, 12, 42, 43, 44, 52, 53, 54, 70], [1, 2, 7, 9, 11, 42, 43, 44, 52, 53, 54], [1, 2, 7, 9, 11, 42, 43, 44, 52, 53, 54], [1, 2, 7, 9, 42, 43, 44], [4, 5]] = some S39 := by kernel_rfl
end Go.Proofs.Ytniobbepliknmaa.V
/- Lengths of words: lens.sums walked; no condition. -/
namespace Go.Proofs.Ytniobbepliknmaa.V
open Go
set_option linter.unusedVariables false
set_option linter.unusedSimpArgs false
attribute [local go_sem] e_seq e_region e_quiet e_join e_loop e_cond e_block e_exit e_ret e_skip e_fin e_kseq e_snrm e_sret e_sex e_bnrm e_bret e_bex e_rnrm e_rret e_res e_condC e_nil e_g e_mv g_mv e_pick g_pick pickC_eq e_ibin g_ibin ibinC_eq e_sbin g_sbin e_beq g_beq beqC_eq e_nilq g_nilq nilqC_sl nilqC_pt nilqC_mp e_un g_un unC_not unC_neg e_conv g_conv convC_eq e_fld g_fld fldC_ref fldC_ptr e_nilCheck g_nilCheck nilCheckC_ref nilCheckC_ptr nilCheckC_fun e_field g_field fieldC_eq e_len g_len lenC_sl lenC_str e_extract g_extract extractC_eq e_mkFunc e_build g_build e_idiv g_idiv idivC_eq e_ishift g_ishift ishiftC_eq e_idx g_idx e_idxA g_idxA e_load g_load loadC_ref loadC_ptr loadB_eq e_slc g_slc e_box boxC_loc boxC_esc e_alloc allocC_loc allocC_esc e_buildS e_store storeC_ref storeC_ptr storeB_eq e_append e_appz e_mk mkC_eq e_call callC_eq e_fn g_fn fnC_eq fnV_min' fnV_max' fnV_rune' e_q g_q e_a e_n g_call g_box g_alloc g_buildS g_store g_append g_mk g_a g_n g_dead e_dead e_callK e_drawn e_tree e_finJ e_tk e_tfin e_tno e_nbt_q e_nbt_qn e_nbt_a e_nbt_an e_nbt_fin e_early_nil e_early_t e_early_f e_nob_nil e_nob_none e_nob_some isBox_dead isBox_v isBox_ref e_dnil e_dk e_ek e_finB vcOps_vc1 e_dcons e_tq e_ekt e_tearly e_talt e_dearly look_nil look_c proj_nil proj_c looks_nil looks_c zip_nil zip_c val_tmp val_const val_func slv_v slv_box slv_ref slot_tmp slot_const slot_func slotL_v slotL_box slotL_ref put_some put_none updBox_c boxSet_box gd_eq slotVals_nil slotVals_c slotVals_b boxV_box boxOn_box slotsOn_nil slotsOn_c slotsOn_b resV_one resV_two vals_nil vals_c allOn_nil allOn_c partOn_nil partOn_c partVals_nil partVals_c fits_nil fits_c fillL_nil fillL_c mkv_one mkv_agg cellsV_agg cellsV_int cellsV_bool cellsV_slice cellsV_string cellsV_pointer cellsV_func cellsV_nilf cellsV_map one'_nil one'_c oc_int oc_bool oc_slice oc_string oc_pointer oc_func oc_nilf oc_map setC_eq iv_add iv_sub iv_mul iv_eql iv_neq iv_lss iv_leq iv_gtr iv_geq iok_add iok_sub iok_mul iok_eql iok_neq iok_lss iok_leq iok_gtr iok_geq pickV_bool args0_nil args0_c bnd_none bnd_some imp_bt imp_bf imp_ebt imp_ebf imp_eb1 imp_np imp_pp beq_tt beq_tf beq_ft beq_ff cond_or cond_and e_round e_meet Int.le_refl Int.toNat_zero decide_true decide_false Bool.or_false Bool.false_or Bool.true_or Bool.or_true Bool.and_false Bool.false_and Bool.bne_false Bool.bne_true beq_iff_eq Int.cast_ofNat_Int not_false_eq_true not_true_eq_false false_and and_false false_implies true_implies true_and and_true Bool.true_and Bool.and_true Bool.not_true Bool.not_false forall_const implies_true List.take_zero List.drop_zero List.take_succ_cons List.drop_succ_cons List.take_nil List.drop_nil List.length_cons List.length_nil List.nil_append List.append_nil List.cons_append Int.toNat_natCast decide_eq_true_eq decide_eq_false_iff_not cond_true cond_false and_self List.getElem?_cons_zero List.getElem?_cons_succ List.set_cons_zero List.set_cons_succ Option.some.injEq exists_eq_left' Nat.zero_add Nat.add_zero Nat.mul_one imp_self true_or or_true or_false false_or Bool.or_eq_true Bool.or_eq_false_iff Bool.and_eq_true Bool.and_eq_false_iff Bool.not_eq_true' Bool.not_eq_false'

/-- the lengths of one symbol -/
def oneL (rows : List (List Bool)) (s : Sy) (j : Nat) : Bool := if s.t then decide (j = 1) else (rows.getD s.n.toNat []).getD j false
/-- the lengths that symbols have together -/
def SumP (rows : List (List Bool)) : List Sy → Nat → Prop
  | [], m => m = 0
  | s :: l, m => ∃ j, j ≤ m ∧ oneL rows s j = true ∧ SumP rows l (m - j)
theorem SumP_snoc {rows : List (List Bool)} {s : Sy} : ∀ {l : List Sy} {m : Nat}, SumP rows (l ++ [s]) m ↔ ∃ k, k ≤ m ∧ SumP rows l k ∧ oneL rows s (m - k) = true
  | [], m => by
    simp only [List.nil_append, SumP]
    constructor
    · rintro ⟨j, h1, h2, h3⟩
      exact ⟨0, by omega, rfl, by rw [show m - 0 = j by omega]; exact h2⟩
    · rintro ⟨k, h1, rfl, h3⟩
      exact ⟨m, by omega, by simpa using h3, by omega⟩
  | t :: l, m => by
    simp only [List.cons_append, SumP]
    constructor
    · rintro ⟨j, h1, h2, h3⟩
      obtain ⟨k, q1, q2, q3⟩ := SumP_snoc.1 h3
      exact ⟨j + k, by omega, ⟨j, by omega, h2, by rw [show j + k - j = k by omega]; exact q2⟩, by rw [show m - (j + k) = m - j - k by omega]; exact q3⟩
    · rintro ⟨k, h1, ⟨j, q1, q2, q3⟩, q4⟩
      exact ⟨j, by omega, q2, SumP_snoc.2 ⟨k - j, by omega, q3, by rw [show m - j - (k - j) = m - k by omega]; exact q4⟩⟩

/-- what is found after rounds k and j -/
def QP (rows : List (List Bool)) (s : Sy) (at' : List Bool) (k j m : Nat) : Prop := ∃ k', k' ≤ m ∧ (k' < k ∨ k' = k ∧ m - k' < j) ∧ at'.getD k' false = true ∧ oneL rows s (m - k') = true
/-- a row that tells which -/
def Tells (n : Nat) (xs : List Bool) (p : Nat → Prop) : Prop := xs.length = n + 1 ∧ ∀ m (h : m < xs.length), xs[m] = true ↔ p m
theorem Tells.congr {n : Nat} {xs : List Bool} {p q : Nat → Prop} (h : Tells n xs p) (hq : ∀ m, m ≤ n → (p m ↔ q m)) : Tells n xs q := ⟨h.1, fun m hm => (h.2 m hm).trans (hq m (by have := h.1; omega))⟩
theorem Tells.set {n : Nat} {xs : List Bool} {p q : Nat → Prop} (h : Tells n xs p) {i : Nat} (hi : i < xs.length) {x : Bool} (hx : x = true ↔ q i) (hq : ∀ m, m ≠ i → (p m ↔ q m)) : Tells n (xs.set i x) q := by
  refine ⟨by simpa using h.1, fun m hm => ?_⟩
  rw [List.getElem_set]
  split
  · rename_i e; subst e; exact hx
  · rename_i e; exact (h.2 m (by simpa using hm)).trans (hq m fun q => e q.symm)

theorem Arr.mono {α : Type} [Sc α] {g g' : PH} {b : Nat} {T : TypeId} {xs : List α} (h : Arr g b T xs) (hl : Mem.le (lk [g]) (lk [g'])) : Arr g' b T xs := lk_one.1 (hl _ _ (lk_one.2 h))
theorem Arr.bool {g : PH} {b : Nat} {T : TypeId} {xs : List Bool} (h : Arr g b T xs) {i : Nat} (hi : i < xs.length) {Γ : Ctx} (hg : g ∈ Γ) : Cells Γ b i [.bool xs[i]] := h.cell hi hg
theorem QP_skip {rows : List (List Bool)} {s : Sy} {at' : List Bool} {i m : Nat} (h : at'.getD i false = false) : QP rows s at' i 0 m ↔ QP rows s at' (i + 1) 0 m := by
  constructor
  · rintro ⟨k', h1, h2, h3, h4⟩
    exact ⟨k', h1, .inl (by omega), h3, h4⟩
  · rintro ⟨k', h1, h2, h3, h4⟩
    refine ⟨k', h1, .inl ?_, h3, h4⟩
    by_cases e : k' = i
    · subst e; rw [h] at h3; cases h3
    · omega
theorem QP_end {rows : List (List Bool)} {s : Sy} {at' : List Bool} {i m n : Nat} (hm : m ≤ n) (hi : i ≤ n) : QP rows s at' i (n + 1 - i) m ↔ QP rows s at' (i + 1) 0 m := by
  constructor
  · rintro ⟨k', h1, h2, h3, h4⟩
    exact ⟨k', h1, .inl (by omega), h3, h4⟩
  · rintro ⟨k', h1, h2, h3, h4⟩
    refine ⟨k', h1, ?_, h3, h4⟩
    omega
theorem QP_step {rows : List (List Bool)} {s : Sy} {at' : List Bool} {i j m : Nat} (h : at'.getD i false = true) : QP rows s at' i (j + 1) m ↔ QP rows s at' i j m ∨ m = i + j ∧ oneL rows s j = true := by
  constructor
  · rintro ⟨k', h1, h2, h3, h4⟩
    by_cases e : k' = i ∧ m - k' = j
    · exact .inr ⟨by omega, by rw [← e.2]; exact h4⟩
    · exact .inl ⟨k', h1, by omega, h3, h4⟩
  · rintro (⟨k', h1, h2, h3, h4⟩ | ⟨h1, h2⟩)
    · exact ⟨k', h1, by omega, h3, h4⟩
    · exact ⟨i, by omega, .inr ⟨rfl, by omega⟩, h, by rw [show m - i = j by omega]; exact h2⟩
theorem QP_all {rows : List (List Bool)} {s : Sy} {at' : List Bool} {n m : Nat} (hm : m ≤ n) {p : Nat → Prop} (hT : Tells n at' p) : QP rows s at' (n + 1) 0 m ↔ ∃ k, k ≤ m ∧ p k ∧ oneL rows s (m - k) = true := by
  have hp : ∀ k, k ≤ n → (at'.getD k false = true ↔ p k) := fun k hk => by
    have hk' : k < at'.length := by have := hT.1; omega
    rw [← hT.2 k hk']
    simp [hk']
  constructor
  · rintro ⟨k', h1, h2, h3, h4⟩
    exact ⟨k', h1, (hp k' (by omega)).1 h3, h4⟩
  · rintro ⟨k', h1, h3, h4⟩
    exact ⟨k', h1, .inl (by omega), (hp k' (by omega)).2 h3, h4⟩
theorem lens_sums {Γr : Ctx} {A B : Option Addr} {c d : Nat} {l : List Sy} {rows : List (List Bool)} (n : Nat) (hn : n ≤ 1000) (hl : SlOk (lk Γr) A c l) (hr : SlOk (lk Γr) B d rows) (hrow : ∀ x ∈ rows, x.length = n + 1) (hin : ∀ s ∈ l, s.t = false → 0 ≤ s.n ∧ s.n.toNat < rows.length) :
    Ret Try.prog 113 [.slice A l.length c, .slice B rows.length d, .int .i64 n] Γr [] (fun v Γ => ∃ g b xs, Γ = [g] ∧ v = .slice (some ⟨b, 0, none⟩) (n + 1) (n + 1) ∧ Arr g b 4 xs ∧ Tells n xs (SumP rows l)) := by
  generalize hR : (fun (v : Value) (Γ : Ctx) => ∃ g b xs, _) = R
  refine ret_of_vc tr113 (Nat.le_of_ble_eq_true rfl) ?_
  have hls := hl.short
  have hrs := hr.short
  simp -implicitDefEqProofs only [S113, S113_0, go_sem, Nat.reduceBEq, Nat.reduceAdd, Nat.reduceSub, Nat.reduceMul, Nat.reduceLeDiff, reduceCtorEq, ↓reduceIte, Int.reduceLT, Int.reduceLE, Int.reduceEq, Int.reduceNe]
  simp (disch := omega) only [wrap_id]
  refine ⟨by omega, by omega, fun b => ?_⟩
  rw [show ((n : Int) + 1).toNat = n + 1 by omega]
  refine s_idx rfl (by omega) (by omega) ?_
  simp -implicitDefEqProofs only [go_sem, Nat.reduceBEq, Nat.reduceAdd, Nat.reduceSub, Nat.reduceMul, Nat.reduceLeDiff, reduceCtorEq, ↓reduceIte, Int.reduceLT, Int.reduceLE, Int.reduceEq, Int.reduceNe]
  refine s_storeA (ix := 0) true rfl (Arr.made false b 4 (n + 1)) (by simp) ?_
  intro g hA _
  simp -implicitDefEqProofs only [go_sem, Nat.reduceBEq, Nat.reduceAdd, Nat.reduceSub, Nat.reduceMul, Nat.reduceLeDiff, reduceCtorEq, ↓reduceIte, Int.reduceLT, Int.reduceLE, Int.reduceEq, Int.reduceNe]
  refine s_loop (fun f vs Γ => ∃ g, Γ = [g] ∧ ∃ (k b : Nat) (xs : List Bool), vs = [.v true (.slice (some ⟨b, 0, none⟩) (n + 1) (n + 1)), .v true (.int .i64 k)] ∧ k + f = l.length ∧ Arr g b 4 xs ∧ Tells n xs (SumP rows (l.take k))) l.length
    (Up.here ⟨_, rfl, 0, b, _, rfl, by omega, hA, Tells.set (p := fun _ => False) ⟨by simp, fun m hm => by simp⟩ (by simp) (by simp [SumP]) (fun m hm => by simpa [SumP] using hm)⟩) ?_
  rintro f vs Γ ⟨g, rfl, k, b, at', rfl, hkf, hA, hT⟩
  simp -implicitDefEqProofs only [S113_5, go_sem, Nat.reduceBEq, Nat.reduceAdd, Nat.reduceSub, Nat.reduceMul, Nat.reduceLeDiff, reduceCtorEq, ↓reduceIte, Int.reduceLT, Int.reduceLE, Int.reduceEq, Int.reduceNe]
  refine ⟨fun hlt => ?_, fun hge => ?_⟩
  · have hk : k < l.length := by omega
    obtain ⟨b1, o1, hA1, hc1⟩ := hl.sy hk
    refine s_idx hA1 (by omega) (by omega) ?_
    simp -implicitDefEqProofs only [go_sem, Nat.reduceBEq, Nat.reduceAdd, Nat.reduceSub, Nat.reduceMul, Nat.reduceLeDiff, reduceCtorEq, ↓reduceIte, Int.reduceLT, Int.reduceLE, Int.reduceEq, Int.reduceNe]
    refine s_ld0 (hc1 _ (lk_r _ _)) (by simp) (by simp) ?_
    simp -implicitDefEqProofs only [go_sem, Nat.reduceBEq, Nat.reduceAdd, Nat.reduceSub, Nat.reduceMul, Nat.reduceLeDiff, reduceCtorEq, ↓reduceIte, Int.reduceLT, Int.reduceLE, Int.reduceEq, Int.reduceNe]
    simp (disch := omega) only [wrap_id]
    intro b2
    refine ⟨by omega, by omega, fun b3 => ?_⟩
    rw [show ((n : Int) + 1).toNat = n + 1 by omega]
    have hal := hT.1
    refine s_loop (fun f' vs Γ => ∃ gx g, Γ = [gx, g] ∧ Arr g b 4 at' ∧ ∃ (i : Nat) (xs : List Bool), vs = [.v true (.int .i64 i)] ∧ i + f' = n + 1 ∧ Arr gx b3 4 xs ∧ Tells n xs (QP rows l[k] at' i 0)) (n + 1)
      (Up.here ⟨_, _, rfl, hA, 0, _, rfl, by omega, Arr.made false b3 4 (n + 1), ⟨by simp, fun m hm => by simp [QP]⟩⟩) ?_
    rintro f' vs Γ ⟨gx, g, rfl, hA, i, xs, rfl, hif, hX, hTx⟩
    have hxl := hTx.1
    simp -implicitDefEqProofs only [S113_4, go_sem, Nat.reduceBEq, Nat.reduceAdd, Nat.reduceSub, Nat.reduceMul, Nat.reduceLeDiff, reduceCtorEq, ↓reduceIte, Int.reduceLT, Int.reduceLE, Int.reduceEq, Int.reduceNe]
    refine ⟨fun hlt => ?_, fun hge => ?_⟩
    · have hi : i < at'.length := by omega
      refine s_split ?_
      simp -implicitDefEqProofs only [S113_2, S113_3, go_sem, Nat.reduceBEq, Nat.reduceAdd, Nat.reduceSub, Nat.reduceMul, Nat.reduceLeDiff, reduceCtorEq, ↓reduceIte, Int.reduceLT, Int.reduceLE, Int.reduceEq, Int.reduceNe]
      refine s_idx rfl (by omega) (by omega) ?_
      simp -implicitDefEqProofs only [go_sem, Nat.reduceBEq, Nat.reduceAdd, Nat.reduceSub, Nat.reduceMul, Nat.reduceLeDiff, reduceCtorEq, ↓reduceIte, Int.reduceLT, Int.reduceLE, Int.reduceEq, Int.reduceNe]
      refine s_ld0 (hA.bool hi (by simp)) (by simp) (by simp) ?_
      simp -implicitDefEqProofs only [go_sem, Nat.reduceBEq, Nat.reduceAdd, Nat.reduceSub, Nat.reduceMul, Nat.reduceLeDiff, reduceCtorEq, ↓reduceIte, Int.reduceLT, Int.reduceLE, Int.reduceEq, Int.reduceNe]
      have hgd : at'.getD i false = at'[i] := by simp [hi]
      refine ⟨fun hf => ?_, fun ht => ?_⟩
      · simp (disch := omega) only [wrap_id]
        exact Up.here ⟨f' - 1, by omega, Up.here ⟨_, _, rfl, hA, i + 1, _, rfl, by omega, hX, hTx.congr fun m _ => QP_skip (by rw [hgd, hf])⟩⟩
      · simp (disch := omega) only [wrap_id]
        refine s_loop (fun f2 vs Γ => ∃ gx g, Γ = [gx, g] ∧ Arr g b 4 at' ∧ ∃ (j : Nat) (xs : List Bool), vs = [.v true (.int .i64 j)] ∧ j + f2 = n + 1 - i ∧ Arr gx b3 4 xs ∧ Tells n xs (QP rows l[k] at' i j)) (n + 1 - i)
          (Up.here ⟨_, _, rfl, hA, 0, _, rfl, by omega, hX, hTx⟩) ?_
        rintro f2 vs Γ ⟨gx, g, rfl, hA, j, xs, rfl, hjf, hX, hTx⟩
        have hxl := hTx.1
        simp -implicitDefEqProofs only [S113_1, go_sem, Nat.reduceBEq, Nat.reduceAdd, Nat.reduceSub, Nat.reduceMul, Nat.reduceLeDiff, reduceCtorEq, ↓reduceIte, Int.reduceLT, Int.reduceLE, Int.reduceEq, Int.reduceNe]
        refine ⟨fun hlt => ?_, fun hge => ?_⟩
        · have hij : i + j < xs.length := by omega
          simp (disch := omega) only [wrap_id]
          refine s_idx rfl (by omega) (by omega) ?_
          simp -implicitDefEqProofs only [go_sem, Nat.reduceBEq, Nat.reduceAdd, Nat.reduceSub, Nat.reduceMul, Nat.reduceLeDiff, reduceCtorEq, ↓reduceIte, Int.reduceLT, Int.reduceLE, Int.reduceEq, Int.reduceNe]
          rw [show ((i : Int) + (j : Int)).toNat = i + j by omega]
          refine s_ld0 (hX.bool hij (by simp)) (by simp) (by simp) ?_
          have hstep : ∀ x : Bool, (x = true ↔ xs[i + j] = true ∨ oneL rows l[k] j = true) → Tells n (xs.set (i + j) x) (QP rows l[k] at' i (j + 1)) := fun x hx => by
            refine hTx.set hij ?_ fun m hm => ?_
            · rw [QP_step (by rw [hgd, ht]), hx, hTx.2 _ hij]
              simp
            · rw [QP_step (by rw [hgd, ht])]
              exact ⟨.inl, fun q => q.resolve_right fun q => hm q.1⟩
          generalize hxo : xs[i + j] = o at hstep ⊢
          have hlk : l[k] ∈ l := List.getElem_mem hk
          generalize hls' : l[k] = s at *
          obtain ⟨t, sn⟩ := s
          cases o <;> cases t
          all_goals
            simp -implicitDefEqProofs only [go_sem, Nat.reduceBEq, Nat.reduceAdd, Nat.reduceSub, Nat.reduceMul, Nat.reduceLeDiff, reduceCtorEq, ↓reduceIte, Int.reduceLT, Int.reduceLE, Int.reduceEq, Int.reduceNe]
          · have hsn := hin _ hlk rfl
            simp only at hsn
            have hsn2 : sn.toNat < rows.length := hsn.2
            have hrl : rows[sn.toNat].length = n + 1 := hrow _ (List.getElem_mem hsn2)
            obtain ⟨b5, o5, hA5, A6, c6, hs6, hc6⟩ := hr.list hsn2
            refine s_idx hA5 (by omega) (by omega) ?_
            simp -implicitDefEqProofs only [go_sem, Nat.reduceBEq, Nat.reduceAdd, Nat.reduceSub, Nat.reduceMul, Nat.reduceLeDiff, reduceCtorEq, ↓reduceIte, Int.reduceLT, Int.reduceLE, Int.reduceEq, Int.reduceNe]
            refine s_ld0 (hc6 _ (lk_r _ _)) (by simp) (by simp) ?_
            simp -implicitDefEqProofs only [go_sem, Nat.reduceBEq, Nat.reduceAdd, Nat.reduceSub, Nat.reduceMul, Nat.reduceLeDiff, reduceCtorEq, ↓reduceIte, Int.reduceLT, Int.reduceLE, Int.reduceEq, Int.reduceNe]
            obtain ⟨b7, o7, hA7, hc7⟩ := hs6.bool (i := j) (by omega)
            refine s_idx hA7 (by omega) (by omega) ?_
            simp -implicitDefEqProofs only [go_sem, Nat.reduceBEq, Nat.reduceAdd, Nat.reduceSub, Nat.reduceMul, Nat.reduceLeDiff, reduceCtorEq, ↓reduceIte, Int.reduceLT, Int.reduceLE, Int.reduceEq, Int.reduceNe]
            refine s_ld0 (hc7 _ (lk_r _ _)) (by simp) (by simp) ?_
            simp -implicitDefEqProofs only [go_sem, Nat.reduceBEq, Nat.reduceAdd, Nat.reduceSub, Nat.reduceMul, Nat.reduceLeDiff, reduceCtorEq, ↓reduceIte, Int.reduceLT, Int.reduceLE, Int.reduceEq, Int.reduceNe]
            refine s_idx rfl (by omega) (by omega) ?_
            simp -implicitDefEqProofs only [go_sem, Nat.reduceBEq, Nat.reduceAdd, Nat.reduceSub, Nat.reduceMul, Nat.reduceLeDiff, reduceCtorEq, ↓reduceIte, Int.reduceLT, Int.reduceLE, Int.reduceEq, Int.reduceNe]
            rw [show ((i : Int) + (j : Int)).toNat = i + j by omega]
            refine s_storeA (ix := 0) (rows[sn.toNat][j]) rfl hX hij ?_
            intro gx' hX' _
            simp -implicitDefEqProofs only [go_sem, Nat.reduceBEq, Nat.reduceAdd, Nat.reduceSub, Nat.reduceMul, Nat.reduceLeDiff, reduceCtorEq, ↓reduceIte, Int.reduceLT, Int.reduceLE, Int.reduceEq, Int.reduceNe]
            simp (disch := omega) only [wrap_id]
            exact ⟨f2 - 1, by omega, Up.here ⟨_, _, rfl, hA, j + 1, _, rfl, by omega, hX', hstep _ (by simp [oneL, hsn2, show j < rows[sn.toNat].length by omega])⟩⟩
          · refine s_idxg (b := 0) (o := 0) (by simp) ?_
            simp -implicitDefEqProofs only [go_sem, Nat.reduceBEq, Nat.reduceAdd, Nat.reduceSub, Nat.reduceMul, Nat.reduceLeDiff, reduceCtorEq, ↓reduceIte, Int.reduceLT, Int.reduceLE, Int.reduceEq, Int.reduceNe]
            refine s_ldg0 (cs := [.slice none 0 0]) (by simp) (by simp) (by simp) (by simp) ?_
            simp -implicitDefEqProofs only [go_sem, Nat.reduceBEq, Nat.reduceAdd, Nat.reduceSub, Nat.reduceMul, Nat.reduceLeDiff, reduceCtorEq, ↓reduceIte, Int.reduceLT, Int.reduceLE, Int.reduceEq, Int.reduceNe]
            refine s_idxg (b := 0) (o := 0) (by simp) ?_
            simp -implicitDefEqProofs only [go_sem, Nat.reduceBEq, Nat.reduceAdd, Nat.reduceSub, Nat.reduceMul, Nat.reduceLeDiff, reduceCtorEq, ↓reduceIte, Int.reduceLT, Int.reduceLE, Int.reduceEq, Int.reduceNe]
            refine s_ldg0 (cs := [.bool false]) (by simp) (by simp) (by simp) (by simp) ?_
            simp -implicitDefEqProofs only [go_sem, Nat.reduceBEq, Nat.reduceAdd, Nat.reduceSub, Nat.reduceMul, Nat.reduceLeDiff, reduceCtorEq, ↓reduceIte, Int.reduceLT, Int.reduceLE, Int.reduceEq, Int.reduceNe]
            refine s_idx rfl (by omega) (by omega) ?_
            simp -implicitDefEqProofs only [go_sem, Nat.reduceBEq, Nat.reduceAdd, Nat.reduceSub, Nat.reduceMul, Nat.reduceLeDiff, reduceCtorEq, ↓reduceIte, Int.reduceLT, Int.reduceLE, Int.reduceEq, Int.reduceNe]
            rw [show ((i : Int) + (j : Int)).toNat = i + j by omega]
            refine s_storeA (ix := 0) (decide ((j : Int) = 1)) rfl hX hij ?_
            intro gx' hX' _
            simp -implicitDefEqProofs only [go_sem, Nat.reduceBEq, Nat.reduceAdd, Nat.reduceSub, Nat.reduceMul, Nat.reduceLeDiff, reduceCtorEq, ↓reduceIte, Int.reduceLT, Int.reduceLE, Int.reduceEq, Int.reduceNe]
            simp (disch := omega) only [wrap_id]
            exact ⟨f2 - 1, by omega, Up.here ⟨_, _, rfl, hA, j + 1, _, rfl, by omega, hX', hstep _ (by simp [oneL]; omega)⟩⟩
          · refine s_idxg (b := 0) (o := 0) (by simp) ?_
            simp -implicitDefEqProofs only [go_sem, Nat.reduceBEq, Nat.reduceAdd, Nat.reduceSub, Nat.reduceMul, Nat.reduceLeDiff, reduceCtorEq, ↓reduceIte, Int.reduceLT, Int.reduceLE, Int.reduceEq, Int.reduceNe]
            refine s_ldg0 (cs := [.slice none 0 0]) (by simp) (by simp) (by simp) (by simp) ?_
            simp -implicitDefEqProofs only [go_sem, Nat.reduceBEq, Nat.reduceAdd, Nat.reduceSub, Nat.reduceMul, Nat.reduceLeDiff, reduceCtorEq, ↓reduceIte, Int.reduceLT, Int.reduceLE, Int.reduceEq, Int.reduceNe]
            refine s_idxg (b := 0) (o := 0) (by simp) ?_
            simp -implicitDefEqProofs only [go_sem, Nat.reduceBEq, Nat.reduceAdd, Nat.reduceSub, Nat.reduceMul, Nat.reduceLeDiff, reduceCtorEq, ↓reduceIte, Int.reduceLT, Int.reduceLE, Int.reduceEq, Int.reduceNe]
            refine s_ldg0 (cs := [.bool false]) (by simp) (by simp) (by simp) (by simp) ?_
            simp -implicitDefEqProofs only [go_sem, Nat.reduceBEq, Nat.reduceAdd, Nat.reduceSub, Nat.reduceMul, Nat.reduceLeDiff, reduceCtorEq, ↓reduceIte, Int.reduceLT, Int.reduceLE, Int.reduceEq, Int.reduceNe]
            refine s_idx rfl (by omega) (by omega) ?_
            simp -implicitDefEqProofs only [go_sem, Nat.reduceBEq, Nat.reduceAdd, Nat.reduceSub, Nat.reduceMul, Nat.reduceLeDiff, reduceCtorEq, ↓reduceIte, Int.reduceLT, Int.reduceLE, Int.reduceEq, Int.reduceNe]
            rw [show ((i : Int) + (j : Int)).toNat = i + j by omega]
            refine s_storeA (ix := 0) (true) rfl hX hij ?_
            intro gx' hX' _
            simp -implicitDefEqProofs only [go_sem, Nat.reduceBEq, Nat.reduceAdd, Nat.reduceSub, Nat.reduceMul, Nat.reduceLeDiff, reduceCtorEq, ↓reduceIte, Int.reduceLT, Int.reduceLE, Int.reduceEq, Int.reduceNe]
            simp (disch := omega) only [wrap_id]
            exact ⟨f2 - 1, by omega, Up.here ⟨_, _, rfl, hA, j + 1, _, rfl, by omega, hX', hstep _ (by simp)⟩⟩
          · refine s_idxg (b := 0) (o := 0) (by simp) ?_
            simp -implicitDefEqProofs only [go_sem, Nat.reduceBEq, Nat.reduceAdd, Nat.reduceSub, Nat.reduceMul, Nat.reduceLeDiff, reduceCtorEq, ↓reduceIte, Int.reduceLT, Int.reduceLE, Int.reduceEq, Int.reduceNe]
            refine s_ldg0 (cs := [.slice none 0 0]) (by simp) (by simp) (by simp) (by simp) ?_
            simp -implicitDefEqProofs only [go_sem, Nat.reduceBEq, Nat.reduceAdd, Nat.reduceSub, Nat.reduceMul, Nat.reduceLeDiff, reduceCtorEq, ↓reduceIte, Int.reduceLT, Int.reduceLE, Int.reduceEq, Int.reduceNe]
            refine s_idxg (b := 0) (o := 0) (by simp) ?_
            simp -implicitDefEqProofs only [go_sem, Nat.reduceBEq, Nat.reduceAdd, Nat.reduceSub, Nat.reduceMul, Nat.reduceLeDiff, reduceCtorEq, ↓reduceIte, Int.reduceLT, Int.reduceLE, Int.reduceEq, Int.reduceNe]
            refine s_ldg0 (cs := [.bool false]) (by simp) (by simp) (by simp) (by simp) ?_
            simp -implicitDefEqProofs only [go_sem, Nat.reduceBEq, Nat.reduceAdd, Nat.reduceSub, Nat.reduceMul, Nat.reduceLeDiff, reduceCtorEq, ↓reduceIte, Int.reduceLT, Int.reduceLE, Int.reduceEq, Int.reduceNe]
            refine s_idx rfl (by omega) (by omega) ?_
            simp -implicitDefEqProofs only [go_sem, Nat.reduceBEq, Nat.reduceAdd, Nat.reduceSub, Nat.reduceMul, Nat.reduceLeDiff, reduceCtorEq, ↓reduceIte, Int.reduceLT, Int.reduceLE, Int.reduceEq, Int.reduceNe]
            rw [show ((i : Int) + (j : Int)).toNat = i + j by omega]
            refine s_storeA (ix := 0) (true) rfl hX hij ?_
            intro gx' hX' _
            simp -implicitDefEqProofs only [go_sem, Nat.reduceBEq, Nat.reduceAdd, Nat.reduceSub, Nat.reduceMul, Nat.reduceLeDiff, reduceCtorEq, ↓reduceIte, Int.reduceLT, Int.reduceLE, Int.reduceEq, Int.reduceNe]
            simp (disch := omega) only [wrap_id]
            exact ⟨f2 - 1, by omega, Up.here ⟨_, _, rfl, hA, j + 1, _, rfl, by omega, hX', hstep _ (by simp)⟩⟩
        · have hj : j = n + 1 - i := by omega
          subst hj
          exact Up.here ⟨f' - 1, by omega, Up.here ⟨_, _, rfl, hA, i + 1, _, rfl, by omega, hX, hTx.congr fun m hm => QP_end hm (by omega)⟩⟩
    · have hi : i = n + 1 := by omega
      subst hi
      simp (disch := omega) only [wrap_id]
      refine ⟨f - 1, by omega, Up.sel [[0]] (by decide) fun _ _ => ⟨_, rfl, k + 1, b3, xs, rfl, by omega, hX, hTx.congr fun m hm => ?_⟩⟩
      rw [QP_all hm hT, List.take_succ_eq_append_getElem hk, SumP_snoc]
  · have hk : k = l.length := by omega
    rw [hk, List.take_length] at hT
    refine Up.here ?_
    subst hR
    exact ⟨_, _, _, rfl, rfl, hA, hT⟩
end Go.Proofs.Ytniobbepliknmaa.V
/- Lengths of words: the plain law; no condition. -/
namespace Go.Proofs.Ytniobbepliknmaa.V
open Go
set_option linter.unusedVariables false
set_option linter.unusedSimpArgs false

/-- a grammar that is accepted -/
structure VG (g : Gr) : Prop where
  ts : 1 ≤ g.ts ∧ g.ts ≤ 8
  ns : 1 ≤ g.ns ∧ g.ns ≤ 10
  st : 0 ≤ g.st ∧ g.st < g.ns
  len : g.rs.length ≤ 32
  left : ∀ r ∈ g.rs, 0 ≤ r.l ∧ r.l < g.ns
  right : ∀ r ∈ g.rs, r.r.length ≤ 4
  sym : ∀ r ∈ g.rs, ∀ s ∈ r.r, 0 ≤ s.n ∧ (s.t = true → s.n < g.ts) ∧ (s.t = false → s.n < g.ns)
theorem ckF_ok {g : Gr} (h : ckF g = 0) : VG g := by
  unfold ckF at h
  split at h
  · cases h
  rename_i hb
  split at h
  · cases h
  rename_i h32
  unfold badHead at hb
  have hf : ∀ k (hk : k < g.rs.length), faultAt g k g.rs[k] = 0 := by
    intro k hk
    have h0 : ∀ m, m ≤ g.rs.length → ckR g m = 0 := by
      intro m hm
      apply Classical.byContradiction
      intro hn
      exact hn (by rw [← ckR_stays hn hm, h])
    rw [← ckR_step hk (h0 k (by omega))]
    exact h0 (k + 1) hk
  have hr : ∀ r ∈ g.rs, (0 ≤ r.l ∧ r.l < g.ns) ∧ r.r.length ≤ 4 ∧ ∀ s ∈ r.r, badSy g.ts g.ns s = false := by
    intro r hr
    obtain ⟨k, hk, rfl⟩ := List.getElem_of_mem hr
    have h1 := hf k hk
    unfold faultAt at h1
    split at h1
    · cases h1
    split at h1
    · cases h1
    split at h1
    · cases h1
    rename_i q1 q2 q3
    refine ⟨by omega, by omega, fun s hs => ?_⟩
    cases hb : badSy g.ts g.ns s with
    | false => rfl
    | true => exact absurd (List.any_eq_true.2 ⟨s, hs, hb⟩) q3
  refine ⟨by omega, by omega, by omega, by omega, fun r h => (hr r h).1, fun r h => (hr r h).2.1, fun r h s hs => ?_⟩
  have := (hr r h).2.2 s hs
  simp only [badSy, Bool.or_eq_false_iff, Bool.and_eq_false_iff, decide_eq_false_iff_not, Bool.not_eq_false'] at this
  obtain ⟨⟨h1, h2⟩, h3⟩ := this
  refine ⟨by omega, fun ht => ?_, fun ht => ?_⟩
  · rw [ht] at h2; simp at h2; exact h2
  · rw [ht] at h3; simp at h3; exact h3

/-- the lengths of words -/
inductive LenD (g : Gr) : List Sy → Nat → Prop
  | nil : LenD g [] 0
  | term {n : Int} {l : List Sy} {k : Nat} : LenD g l k → LenD g (⟨true, n⟩ :: l) (1 + k)
  | non {a : Int} {l : List Sy} {r : Ru} {j k : Nat} : r ∈ g.rs → r.l = a → LenD g r.r j → LenD g l k → LenD g (⟨false, a⟩ :: l) (j + k)
def HasD (g : Gr) (a : Int) (k : Nat) : Prop := ∃ r ∈ g.rs, r.l = a ∧ LenD g r.r k
/-- what is told is so -/
def SoundL (g : Gr) (rows : List (List Bool)) : Prop := ∀ (a k : Nat), (rows.getD a []).getD k false = true → HasD g a k
theorem sum_sound {g : Gr} {rows : List (List Bool)} (h : SoundL g rows) : ∀ {l : List Sy} {m : Nat}, (∀ s ∈ l, 0 ≤ s.n) → SumP rows l m → LenD g l m
  | [], m, _, h => by simp only [SumP] at h; subst h; exact .nil
  | ⟨t, a⟩ :: l, m, h0, hs => by
    obtain ⟨j, h1, h2, h3⟩ := hs
    have ih := sum_sound h (fun s hs => h0 s (by simp [hs])) h3
    cases t with
    | true =>
      simp [oneL] at h2
      subst h2
      rw [show m = 1 + (m - 1) by omega]
      exact .term ih
    | false =>
      simp only [oneL, Bool.false_eq_true, if_false] at h2
      obtain ⟨r, hr, hl, hd⟩ := h _ _ h2
      have ha := h0 ⟨false, a⟩ (by simp)
      rw [show m = j + (m - j) by omega]
      exact .non hr (by rw [hl]; simp only at ha; omega) hd ih
/-- all that follows is told -/
def ClosedL (g : Gr) (n : Nat) (rows : List (List Bool)) : Prop := ∀ r ∈ g.rs, ∀ k, k ≤ n → SumP rows r.r k → (rows.getD r.l.toNat []).getD k false = true
theorem len_told {g : Gr} {n : Nat} {rows : List (List Bool)} (h : ClosedL g n rows) {l : List Sy} {m : Nat} (hd : LenD g l m) : m ≤ n → SumP rows l m := by
  induction hd with
  | nil => intro _; rfl
  | @term n' l k _ ih => intro hm; exact ⟨1, by omega, by simp [oneL], by rw [show 1 + k - 1 = k by omega]; exact ih (by omega)⟩
  | @non a l r j k hr ha _ _ ih1 ih2 =>
    intro hm
    refine ⟨j, by omega, ?_, by rw [show j + k - j = k by omega]; exact ih2 (by omega)⟩
    have := h r hr j (by omega) (ih1 (by omega))
    simp only [oneL, Bool.false_eq_true, if_false]
    rw [← ha]
    exact this
theorem told_iff {g : Gr} {n : Nat} {rows : List (List Bool)} (hs : SoundL g rows) (hc : ClosedL g n rows) {a : Nat} {k : Nat} (hk : k ≤ n) : (rows.getD a []).getD k false = true ↔ HasD g a k := by
  refine ⟨hs a k, ?_⟩
  rintro ⟨r, hr, ha, hd⟩
  have := hc r hr k hk (len_told hc hd hk)
  rw [ha] at this
  simpa using this
/-- how much is told -/
def cntL (rows : List (List Bool)) : Nat := (rows.map (List.count true)).sum
theorem cntL_le : ∀ {rows : List (List Bool)} {m : Nat}, (∀ x ∈ rows, x.length = m) → cntL rows ≤ rows.length * m
  | [], m, _ => by simp [cntL]
  | x :: l, m, h => by
    have h1 := cntL_le (rows := l) (m := m) fun y hy => h y (by simp [hy])
    have h2 : x.count true ≤ m := by rw [← h x (by simp)]; exact List.count_le_length
    simp only [cntL, List.map_cons, List.sum_cons, List.length_cons, Nat.add_mul, Nat.one_mul] at h1 ⊢
    omega
theorem count_set : ∀ {x : List Bool} {k : Nat} (hk : k < x.length), x[k] = false → (x.set k true).count true = x.count true + 1
  | a :: x, 0, _, h => by simp at h; subst h; simp
  | a :: x, k + 1, hk, h => by
    have := count_set (x := x) (k := k) (by simpa using hk) (by simpa using h)
    simp only [List.set_cons_succ, List.count_cons, this]
    omega
theorem cntL_set : ∀ {rows : List (List Bool)} {a : Nat} (ha : a < rows.length) {y : List Bool}, y.count true = rows[a].count true + 1 → cntL (rows.set a y) = cntL rows + 1
  | x :: l, 0, _, y, h => by simp [cntL] at h ⊢; omega
  | x :: l, a + 1, ha, y, h => by
    have := cntL_set (rows := l) (a := a) (by simpa using ha) (by simpa using h)
    simp [cntL] at this ⊢
    omega
theorem sound_set {g : Gr} {rows : List (List Bool)} (h : SoundL g rows) {a k : Nat} (ha : a < rows.length) (hd : HasD g a k) : SoundL g (rows.set a (rows[a].set k true)) := by
  intro b j hb
  by_cases e : b = a
  · subst e
    by_cases e' : j = k
    · subst e'; exact hd
    · refine h b j ?_
      have e'' : ¬ k = j := fun q => e' q.symm
      simpa [List.getD_eq_getElem?_getD, ha, List.getElem?_set, e''] using hb
  · refine h b j ?_
    have e'' : ¬ a = b := fun q => e q.symm
    simpa [List.getD_eq_getElem?_getD, List.getElem?_set, e''] using hb
theorem rep_false (g : Gr) (a n : Nat) : SoundL g (List.replicate a (List.replicate n false)) := by
  intro b k h
  simp only [List.getD_eq_getElem?_getD, List.getElem?_replicate] at h
  split at h
  · simp only [Option.getD_some, List.getElem?_replicate] at h
    split at h <;> simp at h
  · simp at h
theorem cntL_zero (a n : Nat) : cntL (List.replicate a (List.replicate n false)) = 0 := by
  simp [cntL, List.map_replicate, List.count_replicate]
end Go.Proofs.Ytniobbepliknmaa.V
/- The text of parlance/mean.derived as a statement (slots: 0 g, 1 w, 2 g, 3 w, 5 e, 6 n, 7 more, 8 _, 9 r, 10 i, 11 at, 12 _, 13 y); no condition. -/
namespace Go.Proofs.Ytniobbepliknmaa.V
open Go
def S182_1 : Stmt :=
  Stmt.seq
  (Stmt.region [SOper.mk (some 27) none (SOp.ibin BinOp.lss (Operand.tmp 26) (Operand.tmp 25))] [1, 2, 5, 25, 26, 27])
  (Stmt.seq (Stmt.cond (Operand.tmp 27) Stmt.skip (Stmt.exit 0))
    (Stmt.seq
      (Stmt.block 1
        (Stmt.seq
          (Stmt.region
            [SOper.mk (some 28) none (SOp.mv (Operand.tmp 26)), SOper.mk (some 6) none (SOp.mv (Operand.tmp 28))]
            [1, 2, 5, 6, 25, 26])
          (Stmt.drawn
            [(false, SOper.mk (some 29) none (SOp.mv (Operand.tmp 5))),
              (false, SOper.mk (some 30) none (SOp.nilCheck (Operand.tmp 29))),
              (false, SOper.mk (some 31) none (SOp.fld 5 (Operand.tmp 30))),
              (false, SOper.mk (some 32) none (SOp.load false 1 (Operand.tmp 31))),
              (false, SOper.mk (some 33) none (SOp.mv (Operand.tmp 6))),
              (false, SOper.mk (some 34) none (SOp.mv (Operand.tmp 1))),
              (false, SOper.mk (some 35) none (SOp.len false (Operand.tmp 34))),
              (false,
                SOper.mk (some 36) none
                  (SOp.ibin BinOp.add (Operand.tmp 35) (Operand.const (Value.int IntKind.i64 1)))),
              (false,
                SOper.mk (some 37) none (SOp.mk 285 1 4 (Value.int IntKind.u32 0) (Operand.tmp 36) (Operand.tmp 36))),
              (false, SOper.mk (some 38) none (SOp.idx 1 (Operand.tmp 32) (Operand.tmp 33))),
              (false, SOper.mk none none (SOp.store 1 (Operand.tmp 38) (Operand.tmp 37)))]
            [1, 2, 5, 25, 26])))
      (Stmt.region
        [SOper.mk (some 39) none (SOp.ibin BinOp.add (Operand.tmp 26) (Operand.const (Value.int IntKind.i64 1))),
          SOper.mk (some 26) none (SOp.mv (Operand.tmp 39))]
        [1, 2, 5, 25, 26])))
def S182_2 : Stmt :=
  Stmt.seq
  (Stmt.region [SOper.mk (some 66) none (SOp.ibin BinOp.lss (Operand.tmp 65) (Operand.tmp 64))]
    [2, 5, 7, 9, 10, 11, 42, 43, 44, 56, 57, 63, 64, 65, 66])
  (Stmt.seq (Stmt.cond (Operand.tmp 66) Stmt.skip (Stmt.exit 8))
    (Stmt.seq
      (Stmt.block 9
        (Stmt.seq
          (Stmt.region
            [SOper.mk (some 67) none (SOp.idx 2 (Operand.tmp 63) (Operand.tmp 65)),
              SOper.mk (some 68) none (SOp.load true 2 (Operand.tmp 67)),
              SOper.mk (some 13) none
                (SOp.alloc true 39 (Value.agg (Array.mk [Value.bool false, Value.int IntKind.i64 0]))),
              SOper.mk none none (SOp.store 2 (Operand.tmp 13) (Operand.tmp 68))]
            [2, 5, 7, 9, 10, 11, 13, 42, 43, 44, 56, 57, 63, 64, 65])
          (Stmt.region
            [SOper.mk (some 69) none (SOp.mv (Operand.tmp 5)),
              SOper.mk (some 70) none (SOp.load true 2 (Operand.tmp 13)),
              SOper.mk (some 71) none (SOp.mv (Operand.tmp 11)),
              SOper.mk (some 72) none (SOp.call (Operand.func 206) [Operand.tmp 69, Operand.tmp 70, Operand.tmp 71]),
              SOper.mk (some 11) none (SOp.mv (Operand.tmp 72))]
            [2, 5, 7, 9, 10, 11, 42, 43, 44, 56, 57, 63, 64, 65])))
      (Stmt.region
        [SOper.mk (some 73) none (SOp.ibin BinOp.add (Operand.tmp 65) (Operand.const (Value.int IntKind.i64 1))),
          SOper.mk (some 65) none (SOp.mv (Operand.tmp 73))]
        [2, 5, 7, 9, 10, 11, 42, 43, 44, 56, 57, 63, 64, 65])))
def S182_3 : Stmt :=
  Stmt.block 7
  (Stmt.seq
    (Stmt.region [SOper.mk (some 59) none (SOp.mv (Operand.tmp 57)), SOper.mk (some 10) none (SOp.mv (Operand.tmp 59))]
      [2, 5, 7, 9, 10, 42, 43, 44, 56, 57])
    (Stmt.seq
      (Stmt.region
        [SOper.mk (some 60) none (SOp.mv (Operand.tmp 10)),
          SOper.mk (some 61) none (SOp.ishift BinOp.shl (Operand.const (Value.int IntKind.u32 1)) (Operand.tmp 60)),
          SOper.mk (some 11) none (SOp.mv (Operand.tmp 61))]
        [2, 5, 7, 9, 10, 11, 42, 43, 44, 56, 57])
      (Stmt.seq
        (Stmt.seq
          (Stmt.region
            [SOper.mk (some 62) none (SOp.fld 1 (Operand.tmp 9)),
              SOper.mk (some 63) none (SOp.load false 1 (Operand.tmp 62)),
              SOper.mk (some 64) none (SOp.len false (Operand.tmp 63)),
              SOper.mk (some 65) none (SOp.mv (Operand.const (Value.int IntKind.i64 0)))]
            [2, 5, 7, 9, 10, 11, 42, 43, 44, 56, 57, 63, 64, 65])
          (Stmt.block 8 (Stmt.loop S182_2 [11, 65] [2, 5, 7, 9, 10, 42, 43, 44, 56, 57, 63, 64])))
        (Stmt.seq
          (Stmt.quiet
            [SOper.mk (some 74) none (SOp.mv (Operand.tmp 11)), SOper.mk (some 75) none (SOp.mv (Operand.tmp 5)),
              SOper.mk (some 76) none (SOp.nilCheck (Operand.tmp 75)),
              SOper.mk (some 77) none (SOp.fld 5 (Operand.tmp 76)),
              SOper.mk (some 78) none (SOp.load false 1 (Operand.tmp 77)),
              SOper.mk (some 79) none (SOp.fld 0 (Operand.tmp 9)),
              SOper.mk (some 80) none (SOp.load false 1 (Operand.tmp 79)),
              SOper.mk (some 81) none (SOp.idx 1 (Operand.tmp 78) (Operand.tmp 80)),
              SOper.mk (some 82) none (SOp.load false 1 (Operand.tmp 81)),
              SOper.mk (some 83) none (SOp.mv (Operand.tmp 10)),
              SOper.mk (some 84) none (SOp.idx 1 (Operand.tmp 82) (Operand.tmp 83)),
              SOper.mk (some 85) none (SOp.load false 1 (Operand.tmp 84)),
              SOper.mk (some 86) none (SOp.fn (Fk.bits BinOp.andNot) [Operand.tmp 74, Operand.tmp 85]),
              SOper.mk (some 87) none (SOp.ibin BinOp.neq (Operand.tmp 86) (Operand.const (Value.int IntKind.u32 0)))]
            [2, 5, 7, 9, 10, 11, 42, 43, 44, 56, 57, 87])
          (Stmt.cond (Operand.tmp 87)
            (Stmt.seq
              (Stmt.drawn
                [(false, SOper.mk (some 88) none (SOp.mv (Operand.tmp 5))),
                  (false, SOper.mk (some 89) none (SOp.nilCheck (Operand.tmp 88))),
                  (false, SOper.mk (some 90) none (SOp.fld 5 (Operand.tmp 89))),
                  (false, SOper.mk (some 91) none (SOp.load false 1 (Operand.tmp 90))),
                  (false, SOper.mk (some 92) none (SOp.fld 0 (Operand.tmp 9))),
                  (false, SOper.mk (some 93) none (SOp.load false 1 (Operand.tmp 92))),
                  (false, SOper.mk (some 94) none (SOp.idx 1 (Operand.tmp 91) (Operand.tmp 93))),
                  (false, SOper.mk (some 95) none (SOp.load false 1 (Operand.tmp 94))),
                  (false, SOper.mk (some 96) none (SOp.mv (Operand.tmp 10))),
                  (false, SOper.mk (some 97) none (SOp.idx 1 (Operand.tmp 95) (Operand.tmp 96))),
                  (false, SOper.mk (some 98) none (SOp.load false 1 (Operand.tmp 97))),
                  (false, SOper.mk (some 99) none (SOp.mv (Operand.tmp 11))),
                  (false, SOper.mk (some 100) none (SOp.fn (Fk.bits BinOp.or) [Operand.tmp 98, Operand.tmp 99])),
                  (false, SOper.mk (some 101) none (SOp.idx 1 (Operand.tmp 95) (Operand.tmp 96))),
                  (false, SOper.mk none none (SOp.store 1 (Operand.tmp 101) (Operand.tmp 100)))]
                [2, 5, 9, 42, 43, 44, 56, 57])
              (Stmt.region [SOper.mk (some 7) none (SOp.mv (Operand.const (Value.bool true)))]
                [2, 5, 7, 9, 42, 43, 44, 56, 57]))
            Stmt.skip)))))
def S182_4 : Stmt :=
  Stmt.region
  [SOper.mk (some 102) none (SOp.ibin BinOp.add (Operand.tmp 57) (Operand.const (Value.int IntKind.i64 1))),
    SOper.mk (some 57) none (SOp.mv (Operand.tmp 102))]
  [2, 5, 7, 9, 42, 43, 44, 56, 57]
def S182_5 : Stmt :=
  Stmt.seq
  (Stmt.region [SOper.mk (some 58) none (SOp.ibin BinOp.lss (Operand.tmp 57) (Operand.tmp 56))]
    [2, 5, 7, 9, 42, 43, 44, 56, 57, 58])
  (Stmt.seq (Stmt.cond (Operand.tmp 58) Stmt.skip (Stmt.exit 6))
    (Stmt.join S182_3 S182_4 [7] [2, 5, 9, 42, 43, 44, 56, 57]))
def S182_6 : Stmt :=
  Stmt.seq
  (Stmt.region [SOper.mk (some 45) none (SOp.ibin BinOp.lss (Operand.tmp 44) (Operand.tmp 43))]
    [2, 5, 7, 42, 43, 44, 45])
  (Stmt.seq (Stmt.cond (Operand.tmp 45) Stmt.skip (Stmt.exit 4))
    (Stmt.seq
      (Stmt.block 5
        (Stmt.seq
          (Stmt.region
            [SOper.mk (some 46) none (SOp.idx 2 (Operand.tmp 42) (Operand.tmp 44)),
              SOper.mk (some 47) none (SOp.load true 2 (Operand.tmp 46)),
              SOper.mk (some 9) none
                (SOp.alloc true 37 (Value.agg (Array.mk [Value.int IntKind.i64 0, Value.slice none 0 0]))),
              SOper.mk none none (SOp.store 2 (Operand.tmp 9) (Operand.tmp 47))]
            [2, 5, 7, 9, 42, 43, 44])
          (Stmt.seq
            (Stmt.quiet
              [SOper.mk (some 48) none (SOp.mv (Operand.tmp 5)),
                SOper.mk (some 49) none (SOp.nilCheck (Operand.tmp 48)),
                SOper.mk (some 50) none (SOp.fld 5 (Operand.tmp 49)),
                SOper.mk (some 51) none (SOp.load false 1 (Operand.tmp 50)),
                SOper.mk (some 52) none (SOp.fld 0 (Operand.tmp 9)),
                SOper.mk (some 53) none (SOp.load false 1 (Operand.tmp 52)),
                SOper.mk (some 54) none (SOp.idx 1 (Operand.tmp 51) (Operand.tmp 53)),
                SOper.mk (some 55) none (SOp.load false 1 (Operand.tmp 54)),
                SOper.mk (some 56) none (SOp.len false (Operand.tmp 55)),
                SOper.mk (some 57) none (SOp.mv (Operand.const (Value.int IntKind.i64 0)))]
              [2, 5, 7, 9, 42, 43, 44, 56, 57])
            (Stmt.block 6 (Stmt.loop S182_5 [7, 57] [2, 5, 9, 42, 43, 44, 56])))))
      (Stmt.region
        [SOper.mk (some 103) none (SOp.ibin BinOp.add (Operand.tmp 44) (Operand.const (Value.int IntKind.i64 1))),
          SOper.mk (some 44) none (SOp.mv (Operand.tmp 103))]
        [2, 5, 7, 42, 43, 44])))
def S182_7 : Stmt :=
  Stmt.seq
  (Stmt.seq (Stmt.region [SOper.mk (some 40) none (SOp.mv (Operand.tmp 7))] [2, 5, 40])
    (Stmt.cond (Operand.tmp 40) Stmt.skip (Stmt.exit 2)))
  (Stmt.block 3
    (Stmt.seq (Stmt.region [SOper.mk (some 7) none (SOp.mv (Operand.const (Value.bool false)))] [2, 5, 7])
      (Stmt.seq
        (Stmt.region
          [SOper.mk (some 41) none (SOp.fld 3 (Operand.tmp 2)),
            SOper.mk (some 42) none (SOp.load false 1 (Operand.tmp 41)),
            SOper.mk (some 43) none (SOp.len false (Operand.tmp 42)),
            SOper.mk (some 44) none (SOp.mv (Operand.const (Value.int IntKind.i64 0)))]
          [2, 5, 7, 42, 43, 44])
        (Stmt.block 4 (Stmt.loop S182_6 [7, 44] [2, 5, 42, 43])))))
def S182_0 : Stmt :=
  Stmt.seq
  (Stmt.region
    [SOper.mk (some 2) none (SOp.box true 57 (Operand.tmp 0)),
      SOper.mk (some 4) none (SOp.mv (Operand.const (Value.pointer none)))]
    [1, 2])
  (Stmt.seq
    (Stmt.drawn
      [(false, SOper.mk (some 14) none (SOp.load true 4 (Operand.tmp 2))),
        (false, SOper.mk (some 15) none (SOp.mv (Operand.tmp 1))),
        (false, SOper.mk (some 16) none (SOp.fld 1 (Operand.tmp 2))),
        (false, SOper.mk (some 17) none (SOp.load false 1 (Operand.tmp 16))),
        (false, SOper.mk (some 18) none (SOp.mk 284 1 24 (Value.slice none 0 0) (Operand.tmp 17) (Operand.tmp 17))),
        (false,
          SOper.mk (some 19) none
            (SOp.build 283
              [Value.int IntKind.i64 0, Value.int IntKind.i64 0, Value.int IntKind.i64 0, Value.slice none 0 0,
                Value.slice none 0 0, Value.slice none 0 0]
              [(0, 4, Operand.tmp 14), (4, 1, Operand.tmp 15), (5, 1, Operand.tmp 18)])),
        (false, SOper.mk (some 20) none (SOp.box false 283 (Operand.tmp 19))),
        (false, SOper.mk (some 5) none (SOp.mv (Operand.tmp 20)))]
      [1, 2, 5])
    (Stmt.seq
      (Stmt.seq
        (Stmt.region
          [SOper.mk (some 21) none (SOp.mv (Operand.tmp 5)), SOper.mk (some 22) none (SOp.nilCheck (Operand.tmp 21)),
            SOper.mk (some 23) none (SOp.fld 5 (Operand.tmp 22)),
            SOper.mk (some 24) none (SOp.load false 1 (Operand.tmp 23)),
            SOper.mk (some 25) none (SOp.len false (Operand.tmp 24)),
            SOper.mk (some 26) none (SOp.mv (Operand.const (Value.int IntKind.i64 0)))]
          [1, 2, 5, 25, 26])
        (Stmt.block 0 (Stmt.loop S182_1 [26] [1, 2, 5, 25])))
      (Stmt.seq
        (Stmt.seq (Stmt.region [SOper.mk (some 7) none (SOp.mv (Operand.const (Value.bool true)))] [2, 5, 7])
          (Stmt.block 2 (Stmt.loop S182_7 [7] [2, 5])))
        (Stmt.seq
          (Stmt.region
            [SOper.mk (some 104) none (SOp.mv (Operand.tmp 5)), SOper.mk (some 4) none (SOp.mv (Operand.tmp 104))] [4])
          Stmt.ret))))
def S182 : FnS := ⟨105, [(4, none)], S182_0⟩
theorem tr182 : trFn Try.prog 182 [2, 9, 13] [[1, 2], [1, 2, 5], [0, 1, 2, 3, 4, 5, 6, 7], [], [], [], [], [2], [2, 3], [0, 1, 2, 3, 4], [0, 1, 2, 3, 4, 5], [0, 1, 2, 3, 4, 5, 6], [1, 2, 5, 25, 26], [26], [1, 2, 5, 25], [1, 2, 5, 25, 26, 27], [1, 2, 5, 6, 25, 26], [1, 2, 5, 25, 26], [0, 1, 2, 3, 4, 5, 6, 7, 8, 9, 10], [], [], [0], [0, 1], [0, 1, 2], [], [], [5], [5, 6], [5, 6, 7], [0, 1, 2, 3, 4, 5, 6, 7, 8], [0, 1, 2, 3, 4, 5, 6, 7, 8, 9], [1, 2, 5, 25, 26], [2, 5, 7], [7], [2, 5], [2, 5, 40], [2, 5, 7], [2, 5, 7, 42, 43, 44], [7, 44], [2, 5, 42, 43], [2, 5, 7, 42, 43, 44, 45], [2, 5, 7, 9, 42, 43, 44], [2, 5, 7, 9, 42, 43, 44, 56, 57], [7, 57], [2, 5, 9, 42, 43, 44, 56], [2, 5, 7, 9, 42, 43, 44, 56, 57, 58], [7], [2, 5, 9, 42, 43, 44, 56, 57], [2, 5, 7, 9, 10, 42, 43, 44, 56, 57], [2, 5, 7, 9, 10, 11, 42, 43, 44, 56, 57], [2, 5, 7, 9, 10, 11, 42, 43, 44, 56, 57, 63, 64, 65], [11, 65], [2, 5, 7, 9, 10, 42, 43, 44, 56, 57, 63, 64], [2, 5, 7, 9, 10, 11, 42, 43, 44, 56, 57, 63, 64, 65, 66], [2, 5, 7, 9, 10, 11, 13, 42, 43, 44, 56, 57, 63, 64, 65], [2, 5, 7, 9, 10, 11, 42, 43, 44, 56, 57, 63, 64, 65], [2, 5, 7, 9, 10, 11, 42, 43, 44, 56, 57, 63, 64, 65], [2, 5, 7, 9, 10, 11, 42, 43, 44, 56, 57, 87], [2, 5, 9, 42, 43, 44, 56, 57], [0, 1, 2, 3, 4, 5, 6, 7, 8, 9, 10, 11, 12, 13, 14], [], [], [0], [0, 1], [0, 1, 2], [], [4], [0, 1, 2, 3, 4, 5], [0, 1, 2, 3, 4, 5, 6], [], [0, 1, 2, 3, 4, 5, 6, 7, 8], [0, 1, 2, 3, 4, 5, 6, 7, 8, 9], [], [0, 1, 2, 3, 4, 5, 6, 7, 8, 9, 10, 11], [0, 1, 2, 3, 4, 5, 6, 7, 8, 9, 10, 11, 12], [0, 1, 2, 3, 4, 5, 6, 7, 8, 9, 10, 11, 12, 13], [2, 5, 7, 9, 42, 43, 44, 56, 57], [2, 5, 7, 9, 42, 43, 44, 56, 57], [2, 5, 7, 42, 43, 44], [4]] = some S182 := by kernel_rfl
end Go.Proofs.Ytniobbepliknmaa.V
/- The ends of all nonterminals in a word: mean.derived; no condition. -/
namespace Go.Proofs.Ytniobbepliknmaa.V
open Go
set_option linter.unusedVariables false
set_option linter.unusedSimpArgs false
attribute [local go_sem] e_seq e_region e_quiet e_join e_loop e_cond e_block e_exit e_ret e_skip e_fin e_kseq e_snrm e_sret e_sex e_bnrm e_bret e_bex e_rnrm e_rret e_res e_condC e_nil e_g e_mv g_mv e_pick g_pick pickC_eq e_ibin g_ibin ibinC_eq e_sbin g_sbin e_beq g_beq beqC_eq e_nilq g_nilq nilqC_sl nilqC_pt nilqC_mp e_un g_un unC_not unC_neg e_conv g_conv convC_eq e_fld g_fld fldC_ref fldC_ptr e_nilCheck g_nilCheck nilCheckC_ref nilCheckC_ptr nilCheckC_fun e_field g_field fieldC_eq e_len g_len lenC_sl lenC_str e_extract g_extract extractC_eq e_mkFunc e_build g_build e_idiv g_idiv idivC_eq e_ishift g_ishift ishiftC_eq e_idx g_idx e_idxA g_idxA e_load g_load loadC_ref loadC_ptr loadB_eq e_slc g_slc e_box boxC_loc boxC_esc e_alloc allocC_loc allocC_esc e_buildS e_store storeC_ref storeC_ptr storeB_eq e_append e_appz e_mk mkC_eq e_call callC_eq e_fn g_fn fnC_eq fnV_min' fnV_max' fnV_rune' e_q g_q e_a e_n g_call g_box g_alloc g_buildS g_store g_append g_mk g_a g_n g_dead e_dead e_callK e_drawn e_tree e_finJ e_tk e_tfin e_tno e_nbt_q e_nbt_qn e_nbt_a e_nbt_an e_nbt_fin e_early_nil e_early_t e_early_f e_nob_nil e_nob_none e_nob_some isBox_dead isBox_v isBox_ref e_dnil e_dk e_ek e_finB vcOps_vc1 e_dcons e_tq e_ekt e_tearly e_talt e_dearly look_nil look_c proj_nil proj_c looks_nil looks_c zip_nil zip_c val_tmp val_const val_func slv_v slv_box slv_ref slot_tmp slot_const slot_func slotL_v slotL_box slotL_ref put_some put_none updBox_c boxSet_box gd_eq slotVals_nil slotVals_c slotVals_b boxV_box boxOn_box slotsOn_nil slotsOn_c slotsOn_b resV_one resV_two vals_nil vals_c allOn_nil allOn_c partOn_nil partOn_c partVals_nil partVals_c fits_nil fits_c fillL_nil fillL_c mkv_one mkv_agg cellsV_agg cellsV_int cellsV_bool cellsV_slice cellsV_string cellsV_pointer cellsV_func cellsV_nilf cellsV_map one'_nil one'_c oc_int oc_bool oc_slice oc_string oc_pointer oc_func oc_nilf oc_map setC_eq iv_add iv_sub iv_mul iv_eql iv_neq iv_lss iv_leq iv_gtr iv_geq iok_add iok_sub iok_mul iok_eql iok_neq iok_lss iok_leq iok_gtr iok_geq pickV_bool args0_nil args0_c bnd_none bnd_some imp_bt imp_bf imp_ebt imp_ebf imp_eb1 imp_np imp_pp beq_tt beq_tf beq_ft beq_ff cond_or cond_and e_round e_meet Int.le_refl Int.toNat_zero decide_true decide_false Bool.or_false Bool.false_or Bool.true_or Bool.or_true Bool.and_false Bool.false_and Bool.bne_false Bool.bne_true beq_iff_eq Int.cast_ofNat_Int not_false_eq_true not_true_eq_false false_and and_false false_implies true_implies true_and and_true Bool.true_and Bool.and_true Bool.not_true Bool.not_false forall_const implies_true List.take_zero List.drop_zero List.take_succ_cons List.drop_succ_cons List.take_nil List.drop_nil List.length_cons List.length_nil List.nil_append List.append_nil List.cons_append Int.toNat_natCast decide_eq_true_eq decide_eq_false_iff_not cond_true cond_false and_self List.getElem?_cons_zero List.getElem?_cons_succ List.set_cons_zero List.set_cons_succ Option.some.injEq exists_eq_left' Nat.zero_add Nat.add_zero Nat.mul_one imp_self true_or or_true or_false false_or Bool.or_eq_true Bool.or_eq_false_iff Bool.and_eq_true Bool.and_eq_false_iff Bool.not_eq_true' Bool.not_eq_false'

/-! how many bits are set -/
def trip (n m : Nat) : List (Nat × Nat × Nat) := (List.range n).flatMap fun a => (List.range m).flatMap fun i => (List.range m).map fun j => (a, i, j)
theorem trip_mem {n m : Nat} {x : Nat × Nat × Nat} : x ∈ trip n m ↔ x.1 < n ∧ x.2.1 < m ∧ x.2.2 < m := by
  obtain ⟨a, i, j⟩ := x
  simp only [trip, List.mem_flatMap, List.mem_map, List.mem_range, Prod.mk.injEq]
  constructor
  · rintro ⟨a', h1, i', h2, j', h3, rfl, rfl, rfl⟩; exact ⟨h1, h2, h3⟩
  · rintro ⟨h1, h2, h3⟩; exact ⟨a, h1, i, h2, j, h3, rfl, rfl, rfl⟩
theorem filter_le {α : Type} {p q : α → Bool} : ∀ {L : List α}, (∀ x ∈ L, p x = true → q x = true) → (L.filter p).length ≤ (L.filter q).length
  | [], _ => by simp
  | x :: L, h => by
    have ih := filter_le (L := L) fun y hy => h y (by simp [hy])
    have hx := h x (by simp)
    rw [List.filter_cons, List.filter_cons]
    cases e1 : p x <;> cases e2 : q x <;> simp_all <;> omega
theorem filter_lt {α : Type} {p q : α → Bool} : ∀ {L : List α}, (∀ x ∈ L, p x = true → q x = true) → (∃ x ∈ L, p x = false ∧ q x = true) → (L.filter p).length < (L.filter q).length
  | [], _, h => by obtain ⟨x, hx, _⟩ := h; simp at hx
  | x :: L, h, hex => by
    have hx := h x (by simp)
    have h' : ∀ y ∈ L, p y = true → q y = true := fun y hy => h y (by simp [hy])
    have ihl := filter_le (L := L) h'
    rw [List.filter_cons, List.filter_cons]
    obtain ⟨y, hy, h1, h2⟩ := hex
    rcases List.mem_cons.1 hy with rfl | hy
    · simp only [h1, h2, if_true, List.length_cons]
      simp
      omega
    · have ih := filter_lt (L := L) h' ⟨y, hy, h1, h2⟩
      cases e1 : p x <;> cases e2 : q x <;> simp_all <;> omega
open Classical in
noncomputable def cntE (n m : Nat) (E : Int → Nat → Nat → Prop) : Nat := ((trip n m).filter fun x => decide (E x.1 x.2.1 x.2.2)).length
theorem cntE_le {n m : Nat} {E : Int → Nat → Nat → Prop} : cntE n m E ≤ (trip n m).length := List.length_filter_le ..
theorem cntE_mono {n m : Nat} {E E' : Int → Nat → Nat → Prop} (h : ∀ a i j, E a i j → E' a i j) : cntE n m E ≤ cntE n m E' := by
  classical
  exact filter_le fun x _ hx => by simp only [decide_eq_true_eq] at hx ⊢; exact h _ _ _ hx
theorem cntE_lt {n m : Nat} {E E' : Int → Nat → Nat → Prop} (h : ∀ a i j, E a i j → E' a i j) {a i j : Nat} (ha : a < n) (hi : i < m) (hj : j < m) (h1 : ¬ E a i j) (h2 : E' a i j) : cntE n m E < cntE n m E' := by
  classical
  refine filter_lt (fun x _ hx => by simp only [decide_eq_true_eq] at hx ⊢; exact h _ _ _ hx) ⟨(a, i, j), trip_mem.2 ⟨ha, hi, hj⟩, by simpa using h1, by simpa using h2⟩
/-! a table is changed -/
def tabSet (rows : List (List U32)) (a i z : Nat) : List (List U32) := rows.modify a fun r => r.modify i fun x => ⟨x.n ||| z⟩
theorem modify_set {α : Type} (l : List α) (i : Nat) (f : α → α) (h : i < l.length) : l.modify i f = l.set i (f l[i]) := by
  apply List.ext_getElem (by simp)
  intro j h1 h2
  rw [List.getElem_modify, List.getElem_set]
  split
  · rename_i e; subst e; rfl
  · rfl
theorem tabSet_eq {rows : List (List U32)} {a i z : Nat} (ha : a < rows.length) (hi : i < rows[a].length) : tabSet rows a i z = rows.set a (rows[a].set i ⟨rows[a][i].n ||| z⟩) := by
  unfold tabSet
  rw [modify_set _ _ _ ha, modify_set _ _ _ hi]
theorem TabOk.set {rows : List (List U32)} {n m a i z : Nat} (h : TabOk rows n m) (hz : z < 4294967296) : TabOk (tabSet rows a i z) n m := by
  have key : ∀ r ∈ tabSet rows a i z, r.length = m ∧ ∀ x ∈ r, x.n < 4294967296 := by
    intro r hr
    obtain ⟨k, hk, rfl⟩ := List.getElem_of_mem hr
    have hk' : k < rows.length := by simpa [tabSet] using hk
    have h1 := h.row _ (List.getElem_mem hk')
    have h2 := h.small _ (List.getElem_mem hk')
    simp only [tabSet, List.getElem_modify]
    split
    · refine ⟨by simpa using h1, fun x hx => ?_⟩
      obtain ⟨p, hp, rfl⟩ := List.getElem_of_mem hx
      rw [List.getElem_modify]
      have hp' : p < rows[k].length := by simpa using hp
      have h3 := h2 _ (List.getElem_mem hp')
      split
      · exact Nat.or_lt_two_pow (n := 32) h3 hz
      · exact h3
    · exact ⟨h1, h2⟩
  exact ⟨by simpa [tabSet] using h.len, fun r hr => (key r hr).1, fun r hr => (key r hr).2⟩
theorem eb_set {rows : List (List U32)} {n m a i z : Nat} (h : TabOk rows n m) (ha : a < n) (hi : i < m) {a' : Int} {i' j : Nat} : Eb (tabSet rows a i z) a' i' j ↔ Eb rows a' i' j ∨ (a' = a ∧ i' = i ∧ z.testBit j = true) := by
  have hal : a < rows.length := by rw [h.len]; exact ha
  have hil : i < rows[a].length := by rw [h.at' hal]; exact hi
  constructor
  · rintro ⟨h0, row, x, h1, h2, h3⟩
    rw [tabSet, List.getElem?_modify] at h1
    by_cases e : a = a'.toNat
    · subst e
      rw [List.getElem?_eq_getElem hal] at h1
      simp only [if_true, Option.map_eq_map, Option.map_some, Option.some.injEq] at h1
      subst h1
      rw [List.getElem?_modify] at h2
      by_cases e2 : i = i'
      · subst e2
        rw [List.getElem?_eq_getElem hil] at h2
        simp only [if_true, Option.map_eq_map, Option.map_some, Option.some.injEq] at h2
        subst h2
        simp only [Nat.testBit_or, Bool.or_eq_true] at h3
        rcases h3 with h3 | h3
        · exact .inl ⟨h0, _, _, List.getElem?_eq_getElem hal, List.getElem?_eq_getElem hil, h3⟩
        · exact .inr ⟨by omega, rfl, h3⟩
      · simp only [e2, if_false, Option.map_eq_map, Option.map_id'] at h2
        exact .inl ⟨h0, _, _, List.getElem?_eq_getElem hal, by simpa using h2, h3⟩
    · exact .inl ⟨h0, row, x, by simpa [e] using h1, h2, h3⟩
  · rintro (⟨h0, row, x, h1, h2, h3⟩ | ⟨rfl, rfl, h3⟩)
    · refine ⟨h0, (if a = a'.toNat then row.modify i fun x => ⟨x.n ||| z⟩ else row), (if a = a'.toNat ∧ i = i' then ⟨x.n ||| z⟩ else x), ?_, ?_, ?_⟩
      · rw [tabSet, List.getElem?_modify, h1]
        by_cases e : a = a'.toNat <;> simp [e]
      · by_cases e : a = a'.toNat
        · simp only [e, if_true, true_and]
          rw [List.getElem?_modify, h2]
          by_cases e2 : i = i' <;> simp [e2]
        · simp only [e, if_false, false_and]
          exact h2
      · split
        · simp [Nat.testBit_or, h3]
        · exact h3
    · refine ⟨by omega, rows[a].modify i' fun x => ⟨x.n ||| z⟩, ⟨rows[a][i'].n ||| z⟩, ?_, ?_, by simp [Nat.testBit_or, h3]⟩
      · rw [tabSet, List.getElem?_modify]
        simp [List.getElem?_eq_getElem hal]
      · rw [List.getElem?_modify]
        simp [List.getElem?_eq_getElem hil]
/-- what a round of the rules has shown -/
def ClosedK (E : Int → Nat → Nat → Prop) (w : List Int) (rs : List Ru) (m : Nat) : Prop := ∀ r ∈ rs, ∀ i j, i < m → Rch E w r.r i j → E r.l i j
theorem begun_eb (n m : Nat) (a : Int) (i j : Nat) : ¬ Eb (List.replicate n (List.replicate m ⟨0⟩)) a i j := by
  rintro ⟨_, row, x, h1, h2, h3⟩
  rw [List.getElem?_replicate] at h1
  split at h1
  · simp only [Option.some.injEq] at h1
    subst h1
    rw [List.getElem?_replicate] at h2
    split at h2
    · simp only [Option.some.injEq] at h2
      subst h2
      simp at h3
    · cases h2
  · cases h1
set_option maxHeartbeats 4000000 in
theorem mean_derived {Γr : Ctx} {g : Gr} {A W : Option Addr} {c d : Nat} {w : List Int} (hx : SlOk (lk Γr) A c g.rs) (hw : SlOk (lk Γr) W d w) (V : VG g) (hl : w.length ≤ 12) :
    Ret Try.prog 182 [.agg #[.int .i64 g.ts, .int .i64 g.ns, .int .i64 g.st, .slice A g.rs.length c], .slice W w.length d] Γr [] (fun v Γ => ∃ ge b O e rows, Γ = [ge] ∧ v = .pointer (some ⟨b, 0, none⟩) ∧
      lk [ge] b (.cells (endsV g A c W d w O rows.length e).toArray 283 (0, 0)) ∧ SlOk (lk [ge]) O e rows ∧ TabOk rows g.ns.toNat (w.length + 1) ∧ ∀ a i j, i ≤ w.length → (Eb rows a i j ↔ Prt g.rs w a i j)) := by
  generalize hR : (fun (v : Value) (Γ : Ctx) => ∃ ge b O e rows, _) = R
  refine ret_of_vc tr182 (Nat.le_of_ble_eq_true rfl) ?_
  have hns := V.ns
  have hvl := V.len
  obtain ⟨n, hn⟩ : ∃ n : Nat, g.ns.toNat = n := ⟨_, rfl⟩
  have hn10 : n ≤ 10 := by omega
  obtain ⟨m, hm⟩ : ∃ m : Nat, w.length + 1 = m := ⟨_, rfl⟩
  rw [hn, hm] at hR
  simp -implicitDefEqProofs only [S182, S182_0, go_sem, Nat.reduceBEq, Nat.reduceAdd, Nat.reduceSub, Nat.reduceMul, Nat.reduceLeDiff, reduceCtorEq, ↓reduceIte, Int.reduceLT, Int.reduceLE, Int.reduceEq, Int.reduceNe]
  intro b0
  refine ⟨by omega, by omega, fun bo be => ?_⟩
  rw [hn]
  have hbe : (one be (.cells (endsV g A c W d w (some ⟨bo, 0, none⟩) n n).toArray 283 (0, 0))) be = some (.cells (endsV g A c W d w (some ⟨bo, 0, none⟩) n n).toArray 283 (0, 0)) := one_self _ _
  simp only [endsV] at hbe
  generalize one be _ = ge at *
  refine s_ld (o := 0) (j := 5) (cells_lk ⟨ge, by simp, hbe⟩) (by simp) (by simp) ?_
  simp -implicitDefEqProofs only [go_sem, Nat.reduceBEq, Nat.reduceAdd, Nat.reduceSub, Nat.reduceMul, Nat.reduceLeDiff, reduceCtorEq, ↓reduceIte, Int.reduceLT, Int.reduceLE, Int.reduceEq, Int.reduceNe]
  refine s_loop (fun f vs Γ => ∃ (k : Nat) (gg : PH), vs = [.v true (.int .i64 k)] ∧ Γ = [ge, gg] ∧ k + f = n ∧ Grid gg bo 284 285 (part (⟨0⟩ : U32) n m k)) n
    (Up.here ⟨0, _, rfl, rfl, by omega, by have := Grid.made (α := U32) bo 284 285 (m := n) (by omega); simpa [part] using this⟩) ?_
  rintro f vs Γ ⟨k, gg, rfl, rfl, hkf, hG⟩
  simp -implicitDefEqProofs only [S182_1, go_sem, Nat.reduceBEq, Nat.reduceAdd, Nat.reduceSub, Nat.reduceMul, Nat.reduceLeDiff, reduceCtorEq, ↓reduceIte, Int.reduceLT, Int.reduceLE, Int.reduceEq, Int.reduceNe]
  refine ⟨fun hlt => ?_, fun hge => ?_⟩
  · have hk : k < n := by omega
    refine s_ld (o := 0) (j := 5) (cells_lk ⟨ge, by simp, hbe⟩) (by simp) (by simp) ?_
    simp -implicitDefEqProofs only [go_sem, Nat.reduceBEq, Nat.reduceAdd, Nat.reduceSub, Nat.reduceMul, Nat.reduceLeDiff, reduceCtorEq, ↓reduceIte, Int.reduceLT, Int.reduceLE, Int.reduceEq, Int.reduceNe]
    simp (disch := omega) only [wrap_id]
    refine ⟨by omega, by omega, fun b2 => ?_⟩
    refine s_idx rfl (by omega) (by omega) ?_
    simp -implicitDefEqProofs only [go_sem, Nat.reduceBEq, Nat.reduceAdd, Nat.reduceSub, Nat.reduceMul, Nat.reduceLeDiff, reduceCtorEq, ↓reduceIte, Int.reduceLT, Int.reduceLE, Int.reduceEq, Int.reduceNe]
    refine s_storeG (ix := 2) (k := b2) (List.replicate m (⟨0⟩ : U32)) (by simp; omega) rfl hG (by rw [part_len _ (by omega)]; omega) (by simp; omega) ?_
    intro g' hput
    simp -implicitDefEqProofs only [go_sem, Nat.reduceBEq, Nat.reduceAdd, Nat.reduceSub, Nat.reduceMul, Nat.reduceLeDiff, reduceCtorEq, ↓reduceIte, Int.reduceLT, Int.reduceLE, Int.reduceEq, Int.reduceNe]
    simp (disch := omega) only [wrap_id]
    rw [show ((w.length : Int) + 1).toNat = m by omega]
    refine ⟨f - 1, by omega, Up.sel [[1], [0, 2]] (by decide) fun ha hmm => ⟨k + 1, _, rfl, rfl, by omega, ?_⟩⟩
    rw [← part_set _ hk]
    exact hput _ _ (Arr.made (⟨0⟩ : U32) b2 285 m) ((List.pairwise_cons.1 ha).1 g' (by simp)) (hmm [0, 2] (by simp))
  have hk : k = n := by omega
  have hG : Grid gg bo 284 285 (List.replicate n (List.replicate m (⟨0⟩ : U32))) := by
    rw [hk] at hG
    simpa [part] using hG
  obtain ⟨N, hN⟩ : ∃ N : Nat, (trip n m).length = N := ⟨_, rfl⟩
  have hcl : ∀ E, cntE n m E ≤ N := fun E => by rw [← hN]; exact cntE_le
  have hT0 : TabOk (List.replicate n (List.replicate m (⟨0⟩ : U32))) n m := ⟨by simp, by simp, by simp⟩
  refine s_loop (fun f vs Γ => ∃ (more : Bool) (gg : PH) (rows : List (List U32)), vs = [.v true (.bool more)] ∧ Γ = [ge, gg] ∧ f = 2 * (N - cntE n m (Eb rows)) + more.toNat ∧ Grid gg bo 284 285 rows ∧ TabOk rows n m ∧ (∀ a i j, Eb rows a i j → Prt g.rs w a i j) ∧ (more = false → ClosedK (Eb rows) w g.rs m)) _
    (Up.here ⟨true, gg, _, rfl, rfl, rfl, hG, hT0, fun a i j h => absurd h (begun_eb n m a i j), by simp⟩) ?_
  clear hG hT0 hkf hk
  rintro f vs Γ ⟨more, gg, rows, rfl, rfl, hf, hG, hT, hS, hC⟩
  simp -implicitDefEqProofs only [S182_7, go_sem, Nat.reduceBEq, Nat.reduceAdd, Nat.reduceSub, Nat.reduceMul, Nat.reduceLeDiff, reduceCtorEq, ↓reduceIte, Int.reduceLT, Int.reduceLE, Int.reduceEq, Int.reduceNe]
  refine ⟨fun hmt => ?_, fun hmf => ?_⟩
  · subst hmt
    refine s_loop (fun f2 vs Γ => ∃ (more : Bool) (k : Nat) (gg : PH) (rows2 : List (List U32)), vs = [.v true (.bool more), .v true (.int .i64 k)] ∧ Γ = [ge, gg] ∧ k + f2 = g.rs.length ∧ Grid gg bo 284 285 rows2 ∧ TabOk rows2 n m ∧ (∀ a i j, Eb rows2 a i j → Prt g.rs w a i j) ∧ cntE n m (Eb rows) ≤ cntE n m (Eb rows2) ∧ (more = true → cntE n m (Eb rows) < cntE n m (Eb rows2)) ∧ (more = false → rows2 = rows ∧ ClosedK (Eb rows) w (g.rs.take k) m)) g.rs.length
      (Up.here ⟨false, 0, gg, rows, rfl, rfl, by omega, hG, hT, hS, Nat.le_refl _, by simp, fun _ => ⟨rfl, by simp [ClosedK]⟩⟩) ?_
    clear hG
    rintro f2 vs Γ ⟨more2, k, gg, rows2, rfl, rfl, hkf, hG, hT2, hS2, hc2, hc3, hC2⟩
    simp -implicitDefEqProofs only [S182_6, go_sem, Nat.reduceBEq, Nat.reduceAdd, Nat.reduceSub, Nat.reduceMul, Nat.reduceLeDiff, reduceCtorEq, ↓reduceIte, Int.reduceLT, Int.reduceLE, Int.reduceEq, Int.reduceNe]
    refine ⟨fun hlt => ?_, fun hge => ?_⟩
    · have hk : k < g.rs.length := by omega
      have hmem : g.rs[k] ∈ g.rs := List.getElem_mem hk
      have hr4 := V.right _ hmem
      have hleft := V.left _ hmem
      have hsym := V.sym _ hmem
      have htk : g.rs.take (k + 1) = g.rs.take k ++ [g.rs[k]] := List.take_succ_eq_append_getElem hk
      obtain ⟨b1, o1, hA2, A3, c3, hr3, hc5⟩ := hx.ru hk
      generalize g.rs[k] = r at *
      have hrn : r.l.toNat < rows2.length := by rw [hT2.len]; omega
      have hrl := hT2.at' hrn
      refine s_idx hA2 (by omega) (by omega) ?_
      simp -implicitDefEqProofs only [go_sem, Nat.reduceBEq, Nat.reduceAdd, Nat.reduceSub, Nat.reduceMul, Nat.reduceLeDiff, reduceCtorEq, ↓reduceIte, Int.reduceLT, Int.reduceLE, Int.reduceEq, Int.reduceNe]
      refine s_ld0 (hc5 _ (lk_r _ _)) (by simp) (by simp) ?_
      simp -implicitDefEqProofs only [go_sem, Nat.reduceBEq, Nat.reduceAdd, Nat.reduceSub, Nat.reduceMul, Nat.reduceLeDiff, reduceCtorEq, ↓reduceIte, Int.reduceLT, Int.reduceLE, Int.reduceEq, Int.reduceNe]
      intro b2
      refine s_ld (o := 0) (j := 5) (cells_lk ⟨ge, by simp, hbe⟩) (by simp) (by simp) ?_
      simp -implicitDefEqProofs only [go_sem, Nat.reduceBEq, Nat.reduceAdd, Nat.reduceSub, Nat.reduceMul, Nat.reduceLeDiff, reduceCtorEq, ↓reduceIte, Int.reduceLT, Int.reduceLE, Int.reduceEq, Int.reduceNe]
      obtain ⟨kr, hcell, hArr, hput⟩ := hG.at' hrn (by omega)
      refine s_idx rfl (by omega) (by omega) ?_
      simp -implicitDefEqProofs only [go_sem, Nat.reduceBEq, Nat.reduceAdd, Nat.reduceSub, Nat.reduceMul, Nat.reduceLeDiff, reduceCtorEq, ↓reduceIte, Int.reduceLT, Int.reduceLE, Int.reduceEq, Int.reduceNe]
      refine s_ld0 (hcell _ (by simp)) (by simp) (by simp) ?_
      simp -implicitDefEqProofs only [go_sem, Nat.reduceBEq, Nat.reduceAdd, Nat.reduceSub, Nat.reduceMul, Nat.reduceLeDiff, reduceCtorEq, ↓reduceIte, Int.reduceLT, Int.reduceLE, Int.reduceEq, Int.reduceNe]
      clear hcell hArr hput
      rw [hrl]
      refine s_loop (fun f3 vs Γ => ∃ (more : Bool) (i : Nat) (gg : PH) (rows3 : List (List U32)), vs = [.v true (.bool more), .v true (.int .i64 i)] ∧ Γ = [ge, gg] ∧ i + f3 = m ∧ Grid gg bo 284 285 rows3 ∧ TabOk rows3 n m ∧ (∀ a i j, Eb rows3 a i j → Prt g.rs w a i j) ∧ cntE n m (Eb rows) ≤ cntE n m (Eb rows3) ∧ (more = true → cntE n m (Eb rows) < cntE n m (Eb rows3)) ∧ (more = false → rows3 = rows ∧ ClosedK (Eb rows) w (g.rs.take k) m ∧ ∀ i', i' < i → ∀ j, Rch (Eb rows) w r.r i' j → Eb rows r.l i' j)) m
        (Up.here ⟨more2, 0, gg, rows2, rfl, rfl, by omega, hG, hT2, hS2, hc2, hc3, fun h => ⟨(hC2 h).1, (hC2 h).2, fun i' h => by omega⟩⟩) ?_
      clear hG hT2 hS2 hc2 hc3 hC2 hrn hrl
      rintro f3 vs Γ ⟨more3, i, gg, rows3, rfl, rfl, hif, hG, hT3, hS3, hc3, hc4, hC3⟩
      simp -implicitDefEqProofs only [S182_5, go_sem, Nat.reduceBEq, Nat.reduceAdd, Nat.reduceSub, Nat.reduceMul, Nat.reduceLeDiff, reduceCtorEq, ↓reduceIte, Int.reduceLT, Int.reduceLE, Int.reduceEq, Int.reduceNe]
      refine ⟨fun hlt => ?_, fun hge => ?_⟩
      · have hi : i < m := by omega
        have hrn : r.l.toNat < rows3.length := by rw [hT3.len]; omega
        have hrl := hT3.at' hrn
        refine s_split ?_
        simp -implicitDefEqProofs only [S182_3, S182_4, bit_shl uns32 (show i < 32 by omega), go_sem, Nat.reduceBEq, Nat.reduceAdd, Nat.reduceSub, Nat.reduceMul, Nat.reduceLeDiff, reduceCtorEq, ↓reduceIte, Int.reduceLT, Int.reduceLE, Int.reduceEq, Int.reduceNe]
        refine ⟨by omega, ?_⟩
        have hp : 2 ^ i < 4294967296 := Nat.pow_lt_pow_right (a := 2) (n := 32) (by omega) (by omega)
        refine s_loop (fun f4 vs Γ => ∃ (z q : Nat), vs = [.v true (.int .u32 z), .v true (.int .i64 q)] ∧ Γ = [ge, gg] ∧ q + f4 = r.r.length ∧ z < 4294967296 ∧ ∀ j, z.testBit j = true ↔ Rch (Eb rows3) w (r.r.take q) i j) r.r.length
          (Up.here ⟨_, 0, rfl, rfl, by omega, hp, fun j => by rw [Nat.testBit_two_pow]; simp [Rch, eq_comm]⟩) ?_
        rintro f4 vs Γ ⟨z, q, rfl, rfl, hqf, hz, hzj⟩
        simp -implicitDefEqProofs only [S182_2, go_sem, Nat.reduceBEq, Nat.reduceAdd, Nat.reduceSub, Nat.reduceMul, Nat.reduceLeDiff, reduceCtorEq, ↓reduceIte, Int.reduceLT, Int.reduceLE, Int.reduceEq, Int.reduceNe]
        refine ⟨fun hlt => ?_, fun hge => ?_⟩
        · have hq : q < r.r.length := by omega
          have hsm : r.r[q] ∈ r.r := List.getElem_mem hq
          have hs := hsym _ hsm
          have htk2 : r.r.take (q + 1) = r.r.take q ++ [r.r[q]] := List.take_succ_eq_append_getElem hq
          obtain ⟨b3, o3, hA4, hc6⟩ := hr3.sy hq
          generalize r.r[q] = y at *
          refine s_idx hA4 (by omega) (by omega) ?_
          simp -implicitDefEqProofs only [go_sem, Nat.reduceBEq, Nat.reduceAdd, Nat.reduceSub, Nat.reduceMul, Nat.reduceLeDiff, reduceCtorEq, ↓reduceIte, Int.reduceLT, Int.reduceLE, Int.reduceEq, Int.reduceNe]
          refine s_ld0 (hc6 _ (lk_r _ _)) (by simp) (by simp) ?_
          simp -implicitDefEqProofs only [go_sem, Nat.reduceBEq, Nat.reduceAdd, Nat.reduceSub, Nat.reduceMul, Nat.reduceLeDiff, reduceCtorEq, ↓reduceIte, Int.reduceLT, Int.reduceLE, Int.reduceEq, Int.reduceNe]
          intro b4
          refine CallVC.read (mean_after (g := g) (A := A) (c := c) (W := W) (d := d) (O := some ⟨bo, 0, none⟩) (e := n) (w := w) (rows := rows3) (T := 283) ⟨ge, by simp, by rw [hbe, hT3.len]; rfl⟩ (hw.mono (lk_r _ _)) ((hT3.len ▸ hG.slok (Mem.le.refl _) : SlOk _ _ n rows3).mono (lk_sub (by simp))) (hm ▸ hT3) (by omega) y (fun h => ⟨hs.1, by have := hs.2.2 h; omega⟩) z hz) ?_
          rintro v Γ' ⟨rfl, z', rfl, hz', hzj'⟩
          simp -implicitDefEqProofs only [go_sem, Nat.reduceBEq, Nat.reduceAdd, Nat.reduceSub, Nat.reduceMul, Nat.reduceLeDiff, reduceCtorEq, ↓reduceIte, Int.reduceLT, Int.reduceLE, Int.reduceEq, Int.reduceNe]
          simp (disch := omega) only [wrap_id]
          refine ⟨f4 - 1, by omega, Up.here ⟨z', q + 1, rfl, rfl, by omega, hz', fun j => ?_⟩⟩
          rw [hzj', htk2, rch_snoc]
          constructor
          · rintro ⟨i', _, h1, h2⟩; exact ⟨i', (hzj i').1 h1, h2⟩
          · rintro ⟨i', h1, h2⟩
            exact ⟨i', (prtL_le (w := w) (by omega) (rch_sound hS3 h1)).2, (hzj i').2 h1, h2⟩
        · have hq : q = r.r.length := by omega
          rw [hq, List.take_length] at hzj
          obtain ⟨kr, hcell, hArr, hput⟩ := hG.at' hrn (by omega)
          have hi2 : i < rows3[r.l.toNat].length := by omega
          have hxs := hT3.small _ (List.getElem_mem hrn) _ (List.getElem_mem hi2)
          have hEb : ∀ j, Eb rows3 r.l i j ↔ rows3[r.l.toNat][i].n.testBit j = true := fun j => by
            constructor
            · rintro ⟨_, row, x, h1, h2, h3⟩
              rw [List.getElem?_eq_getElem hrn, Option.some.injEq] at h1
              subst h1
              rw [List.getElem?_eq_getElem hi2, Option.some.injEq] at h2
              subst h2
              exact h3
            · exact fun h => ⟨by omega, _, _, List.getElem?_eq_getElem hrn, List.getElem?_eq_getElem hi2, h⟩
          refine s_ld (o := 0) (j := 5) (cells_lk ⟨ge, by simp, hbe⟩) (by simp) (by simp) ?_
          simp -implicitDefEqProofs only [go_sem, Nat.reduceBEq, Nat.reduceAdd, Nat.reduceSub, Nat.reduceMul, Nat.reduceLeDiff, reduceCtorEq, ↓reduceIte, Int.reduceLT, Int.reduceLE, Int.reduceEq, Int.reduceNe]
          refine s_idx rfl (by omega) (by omega) ?_
          simp -implicitDefEqProofs only [go_sem, Nat.reduceBEq, Nat.reduceAdd, Nat.reduceSub, Nat.reduceMul, Nat.reduceLeDiff, reduceCtorEq, ↓reduceIte, Int.reduceLT, Int.reduceLE, Int.reduceEq, Int.reduceNe]
          refine s_ld0 (hcell _ (by simp)) (by simp) (by simp) ?_
          simp -implicitDefEqProofs only [go_sem, Nat.reduceBEq, Nat.reduceAdd, Nat.reduceSub, Nat.reduceMul, Nat.reduceLeDiff, reduceCtorEq, ↓reduceIte, Int.reduceLT, Int.reduceLE, Int.reduceEq, Int.reduceNe]
          refine s_idx rfl (by omega) (by omega) ?_
          simp -implicitDefEqProofs only [go_sem, Nat.reduceBEq, Nat.reduceAdd, Nat.reduceSub, Nat.reduceMul, Nat.reduceLeDiff, reduceCtorEq, ↓reduceIte, Int.reduceLT, Int.reduceLE, Int.reduceEq, Int.reduceNe]
          refine s_ld0 (hArr.cell hi2 (by simp)) (by simp) (by simp) ?_
          simp -implicitDefEqProofs only [Sc.enc, bit_diff uns32 hz hxs, fnC_eq, go_sem, Nat.reduceBEq, Nat.reduceAdd, Nat.reduceSub, Nat.reduceMul, Nat.reduceLeDiff, reduceCtorEq, ↓reduceIte, Int.reduceLT, Int.reduceLE, Int.reduceEq, Int.reduceNe]
          refine ⟨fun hne => ?_, fun heq => ?_⟩
          · refine s_ld (o := 0) (j := 5) (cells_lk ⟨ge, by simp, hbe⟩) (by simp) (by simp) ?_
            simp -implicitDefEqProofs only [go_sem, Nat.reduceBEq, Nat.reduceAdd, Nat.reduceSub, Nat.reduceMul, Nat.reduceLeDiff, reduceCtorEq, ↓reduceIte, Int.reduceLT, Int.reduceLE, Int.reduceEq, Int.reduceNe]
            refine s_idx rfl (by omega) (by omega) ?_
            simp -implicitDefEqProofs only [go_sem, Nat.reduceBEq, Nat.reduceAdd, Nat.reduceSub, Nat.reduceMul, Nat.reduceLeDiff, reduceCtorEq, ↓reduceIte, Int.reduceLT, Int.reduceLE, Int.reduceEq, Int.reduceNe]
            refine s_ld0 (hcell _ (by simp)) (by simp) (by simp) ?_
            simp -implicitDefEqProofs only [go_sem, Nat.reduceBEq, Nat.reduceAdd, Nat.reduceSub, Nat.reduceMul, Nat.reduceLeDiff, reduceCtorEq, ↓reduceIte, Int.reduceLT, Int.reduceLE, Int.reduceEq, Int.reduceNe]
            refine s_idx rfl (by omega) (by omega) ?_
            simp -implicitDefEqProofs only [go_sem, Nat.reduceBEq, Nat.reduceAdd, Nat.reduceSub, Nat.reduceMul, Nat.reduceLeDiff, reduceCtorEq, ↓reduceIte, Int.reduceLT, Int.reduceLE, Int.reduceEq, Int.reduceNe]
            refine s_ld0 (hArr.cell hi2 (by simp)) (by simp) (by simp) ?_
            simp -implicitDefEqProofs only [Sc.enc, bit_or uns32 hxs hz, fnC_eq, go_sem, Nat.reduceBEq, Nat.reduceAdd, Nat.reduceSub, Nat.reduceMul, Nat.reduceLeDiff, reduceCtorEq, ↓reduceIte, Int.reduceLT, Int.reduceLE, Int.reduceEq, Int.reduceNe]
            refine s_idx rfl (by omega) (by omega) ?_
            simp -implicitDefEqProofs only [go_sem, Nat.reduceBEq, Nat.reduceAdd, Nat.reduceSub, Nat.reduceMul, Nat.reduceLeDiff, reduceCtorEq, ↓reduceIte, Int.reduceLT, Int.reduceLE, Int.reduceEq, Int.reduceNe]
            refine s_storeA (ix := 1) (α := U32) (T := 285) ⟨rows3[r.l.toNat][i].n ||| z⟩ rfl hArr (i := i) hi2 ?_
            intro g' hA' ho'
            have hG' := hput g' _ hA' (by simp) ho'
            rw [← tabSet_eq hrn hi2] at hG'
            simp -implicitDefEqProofs only [go_sem, Nat.reduceBEq, Nat.reduceAdd, Nat.reduceSub, Nat.reduceMul, Nat.reduceLeDiff, reduceCtorEq, ↓reduceIte, Int.reduceLT, Int.reduceLE, Int.reduceEq, Int.reduceNe]
            simp (disch := omega) only [wrap_id]
            have hset : ∀ {a' : Int} {i' j : Nat}, Eb (tabSet rows3 r.l.toNat i z) a' i' j ↔ Eb rows3 a' i' j ∨ (a' = r.l.toNat ∧ i' = i ∧ z.testBit j = true) := fun {a' i' j} => eb_set hT3 (by omega) hi
            have hsnd : ∀ j, z.testBit j = true → Prt g.rs w r.l i j := fun j h => by
              obtain ⟨u, h1, h2, h3⟩ := rch_sound hS3 ((hzj j).1 h)
              exact ⟨u, ⟨r, hmem, rfl, h1⟩, h2, h3⟩
            obtain ⟨j0, hj1, hj2⟩ : ∃ j, z.testBit j = true ∧ ¬ rows3[r.l.toNat][i].n.testBit j = true := by
              apply Classical.byContradiction
              intro q
              refine hne ?_
              have := (bdiff_zero hz hxs).2 fun j h => Classical.byContradiction fun h' => q ⟨j, h, h'⟩
              omega
            have hj0 := (prt_le (w := w) (by omega) (hsnd j0 hj1)).2
            have hlt2 : cntE n m (Eb rows3) < cntE n m (Eb (tabSet rows3 r.l.toNat i z)) :=
              cntE_lt (fun a i j h => hset.2 (.inl h)) (a := r.l.toNat) (i := i) (j := j0) (by omega) hi (by omega) (fun h => hj2 ((hEb j0).1 (by rw [show ((r.l.toNat : Nat) : Int) = r.l by omega] at h; exact h))) (hset.2 (.inr ⟨rfl, rfl, hj1⟩))
            refine Up.here ⟨f3 - 1, by omega, Up.here ⟨true, i + 1, g', tabSet rows3 r.l.toNat i z, rfl, rfl, by omega, hG', hT3.set hz, fun a' i' j h => ?_, by omega, fun _ => by omega, fun h => Bool.noConfusion h⟩⟩
            rcases hset.1 h with h | ⟨rfl, rfl, h9⟩
            · exact hS3 _ _ _ h
            · rw [show ((r.l.toNat : Nat) : Int) = r.l by omega]
              exact hsnd j h9
          · simp (disch := omega) only [wrap_id]
            refine Up.here ⟨f3 - 1, by omega, Up.here ⟨more3, i + 1, gg, rows3, rfl, rfl, by omega, hG, hT3, hS3, hc3, hc4, fun h => ?_⟩⟩
            obtain ⟨h1, h2, h3⟩ := hC3 h
            refine ⟨h1, h2, fun i' hi' j hr => ?_⟩
            by_cases e : i' = i
            · subst e
              rw [← h1] at hr ⊢
              have hz0 : bdiff z rows3[r.l.toNat][i'].n = 0 := by omega
              exact (hEb j).2 ((bdiff_zero hz hxs).1 hz0 j ((hzj j).2 hr))
            · exact h3 i' (by omega) j hr
      · have hi : i = m := by omega
        rw [hi] at hC3
        simp (disch := omega) only [wrap_id]
        refine ⟨f2 - 1, by omega, Up.here ⟨more3, k + 1, gg, rows3, rfl, rfl, by omega, hG, hT3, hS3, hc3, hc4, fun h => ⟨(hC3 h).1, ?_⟩⟩⟩
        intro r' hr'
        rw [htk] at hr'
        rcases List.mem_append.1 hr' with h1 | h1
        · exact (hC3 h).2.1 r' h1
        · simp at h1
          subst h1
          exact fun i' j h1 h2 => (hC3 h).2.2 i' h1 j h2
    · have hk : k = g.rs.length := by omega
      subst hk
      rw [List.take_length] at hC2
      have hcl2 := hcl (Eb rows2)
      refine ⟨2 * (N - cntE n m (Eb rows2)) + more2.toNat, ?_, Up.here ⟨more2, gg, rows2, rfl, rfl, rfl, hG, hT2, hS2, fun h => ?_⟩⟩
      · cases more2 with
        | true => have := hc3 rfl; simp only [hf, Bool.toNat_true]; omega
        | false => simp only [hf, Bool.toNat_true, Bool.toNat_false]; omega
      · obtain ⟨h1, h2⟩ := hC2 h
        rw [h1]
        exact h2
  · have hmf : more = false := by simpa using hmf
    refine Up.one fun G hG' => ?_
    subst hR
    have hle := hT.len
    refine ⟨G, be, some ⟨bo, 0, none⟩, n, rows, rfl, rfl, hG' _ _ ⟨ge, by simp, by rw [hbe, hle]; rfl⟩, ((hle ▸ hG.slok (Mem.le.refl _) : SlOk _ _ n rows)).mono (Mem.le.trans (lk_sub (by simp)) hG'), hT, fun a i j hi => ?_⟩
    exact prt_iff hS (fun r hr i j hi h => hC hmf r hr i j (by omega) h) a i j hi
end Go.Proofs.Ytniobbepliknmaa.V
/- A map is ranged over; how many keys it has; bytes that become a text; no condition. -/
namespace Go.Proofs.Ytniobbepliknmaa.V
open Go
set_option linter.unusedVariables false
set_option linter.unusedSimpArgs false
set_option linter.unusedSectionVars false
attribute [local go_sem] e_seq e_region e_quiet e_join e_loop e_cond e_block e_exit e_ret e_skip e_fin e_kseq e_snrm e_sret e_sex e_bnrm e_bret e_bex e_rnrm e_rret e_res e_condC e_nil e_g e_mv g_mv e_pick g_pick pickC_eq e_ibin g_ibin ibinC_eq e_sbin g_sbin e_beq g_beq beqC_eq e_nilq g_nilq nilqC_sl nilqC_pt nilqC_mp e_un g_un unC_not unC_neg e_conv g_conv convC_eq e_fld g_fld fldC_ref fldC_ptr e_nilCheck g_nilCheck nilCheckC_ref nilCheckC_ptr nilCheckC_fun e_field g_field fieldC_eq e_len g_len lenC_sl lenC_str e_extract g_extract extractC_eq e_mkFunc e_build g_build e_idiv g_idiv idivC_eq e_ishift g_ishift ishiftC_eq e_idx g_idx e_idxA g_idxA e_load g_load loadC_ref loadC_ptr loadB_eq e_slc g_slc e_box boxC_loc boxC_esc e_alloc allocC_loc allocC_esc e_buildS e_store storeC_ref storeC_ptr storeB_eq e_append e_appz e_mk mkC_eq e_call callC_eq e_fn g_fn fnC_eq fnV_min' fnV_max' fnV_rune' e_q g_q e_a e_n g_call g_box g_alloc g_buildS g_store g_append g_mk g_a g_n g_dead e_dead e_callK e_drawn e_tree e_finJ e_tk e_tfin e_tno e_nbt_q e_nbt_qn e_nbt_a e_nbt_an e_nbt_fin e_early_nil e_early_t e_early_f e_nob_nil e_nob_none e_nob_some isBox_dead isBox_v isBox_ref e_dnil e_dk e_ek e_finB vcOps_vc1 e_dcons e_tq e_ekt e_tearly e_talt e_dearly look_nil look_c proj_nil proj_c looks_nil looks_c zip_nil zip_c val_tmp val_const val_func slv_v slv_box slv_ref slot_tmp slot_const slot_func slotL_v slotL_box slotL_ref put_some put_none updBox_c boxSet_box gd_eq slotVals_nil slotVals_c slotVals_b boxV_box boxOn_box slotsOn_nil slotsOn_c slotsOn_b resV_one resV_two vals_nil vals_c allOn_nil allOn_c partOn_nil partOn_c partVals_nil partVals_c fits_nil fits_c fillL_nil fillL_c mkv_one mkv_agg cellsV_agg cellsV_int cellsV_bool cellsV_slice cellsV_string cellsV_pointer cellsV_func cellsV_nilf cellsV_map one'_nil one'_c oc_int oc_bool oc_slice oc_string oc_pointer oc_func oc_nilf oc_map setC_eq iv_add iv_sub iv_mul iv_eql iv_neq iv_lss iv_leq iv_gtr iv_geq iok_add iok_sub iok_mul iok_eql iok_neq iok_lss iok_leq iok_gtr iok_geq pickV_bool args0_nil args0_c bnd_none bnd_some imp_bt imp_bf imp_ebt imp_ebf imp_eb1 imp_np imp_pp beq_tt beq_tf beq_ft beq_ff cond_or cond_and e_round e_meet Int.le_refl Int.toNat_zero decide_true decide_false Bool.or_false Bool.false_or Bool.true_or Bool.or_true Bool.and_false Bool.false_and Bool.bne_false Bool.bne_true beq_iff_eq Int.cast_ofNat_Int not_false_eq_true not_true_eq_false false_and and_false false_implies true_implies true_and and_true Bool.true_and Bool.and_true Bool.not_true Bool.not_false forall_const implies_true List.take_zero List.drop_zero List.take_succ_cons List.drop_succ_cons List.take_nil List.drop_nil List.length_cons List.length_nil List.nil_append List.append_nil List.cons_append Int.toNat_natCast decide_eq_true_eq decide_eq_false_iff_not cond_true cond_false and_self List.getElem?_cons_zero List.getElem?_cons_succ List.set_cons_zero List.set_cons_succ Option.some.injEq exists_eq_left' Nat.zero_add Nat.add_zero Nat.mul_one imp_self true_or or_true or_false false_or Bool.or_eq_true Bool.or_eq_false_iff Bool.and_eq_true Bool.and_eq_false_iff Bool.not_eq_true' Bool.not_eq_false'

section
variable {α β : Type}
def kvs (es : List MapEntry) : List (Value × Value) := es.map fun e => (e.key, e.val)
def encs (eK : α → Value) (eV : β → Value) (l : List (α × β)) : List (Value × Value) := l.map fun p => (eK p.1, eV p.2)
/-- the iterator r over the map b: what is still to come -/
structure ItM (L : Mem) (g : PH) (r b : Nat) (eK : α → Value) (eV : β → Value) (left : List (α × β)) : Prop where
  at' : ∃ es clock seen, L b (.map es clock) ∧ Born es.toList clock ∧ g r = some (.mapIter (some b) clock seen clock) ∧ kvs (leftOf es seen).toList = encs eK eV left
/-- the entry that the iterator r came to -/
def CurM (L : Mem) (g : PH) (r b : Nat) (k v : Value) : Prop := ∃ (es : Array MapEntry) (clock : Nat) (seen : Array Nat) (e : MapEntry), L b (.map es clock) ∧ Born es.toList clock ∧ g r = some (.mapIter (some b) clock (seen.push e.born) clock) ∧ e ∈ es.toList ∧ e.key = k ∧ e.val = v
theorem ItM.mono {L L' : Mem} {g g' : PH} {r b : Nat} {eK : α → Value} {eV : β → Value} {left : List (α × β)} (h : ItM L g r b eK eV left) (hl : Mem.le L L') (hg : Mem.le (lk [g]) (lk [g'])) : ItM L' g' r b eK eV left := by
  obtain ⟨es, c, s, h1, h2, h3, h4⟩ := h.at'
  exact ⟨es, c, s, hl _ _ h1, h2, lk_one.1 (hg _ _ (lk_one.2 h3)), h4⟩
theorem filter_erase {es : List MapEntry} : ∀ {j : Nat} {e : MapEntry}, (es.map (·.born)).Nodup → es[j]? = some e → es.filter (fun x => x.born != e.born) = es.eraseIdx j := by
  induction es with
  | nil => intro j e _ h; simp at h
  | cons x es ih =>
    intro j e hn hj
    obtain ⟨h1, h2⟩ := List.nodup_cons.1 hn
    cases j with
    | zero =>
      simp only [List.getElem?_cons_zero, Option.some.injEq] at hj
      subst hj
      simp only [List.filter_cons, bne_self_eq_false, Bool.false_eq_true, if_false, List.eraseIdx_cons_zero]
      rw [List.filter_eq_self]
      intro y hy
      simp only [bne_iff_ne, ne_eq]
      exact fun q => h1 (List.mem_map.2 ⟨y, hy, q⟩)
    | succ j =>
      simp only [List.getElem?_cons_succ] at hj
      have hne : x.born ≠ e.born := fun q => h1 (List.mem_map.2 ⟨e, List.mem_of_getElem? hj, q.symm⟩)
      simp only [List.filter_cons, List.eraseIdx_cons_succ, bne_iff_ne, ne_eq, hne, not_false_eq_true, if_true]
      rw [ih h2 hj]
theorem left_push {es : Array MapEntry} {seen : Array Nat} {c : Nat} (hb : Born es.toList c) {j : Nat} {e : MapEntry} (hj : (leftOf es seen).toList[j]? = some e) : (leftOf es (seen.push e.born)).toList = (leftOf es seen).toList.eraseIdx j := by
  have hn : ((leftOf es seen).toList.map (·.born)).Nodup := by
    unfold leftOf
    rw [Array.toList_filter]
    exact hb.2.sublist (List.filter_sublist.map _)
  rw [← filter_erase hn hj]
  unfold leftOf
  rw [Array.toList_filter, Array.toList_filter, List.filter_filter]
  apply List.filter_congr
  intro x _
  simp only [Array.contains_push, Bool.not_or]
  rw [Bool.and_comm]
  rfl
theorem map_erase {γ δ : Type} (f : γ → δ) : ∀ (l : List γ) (j : Nat), (l.eraseIdx j).map f = (l.map f).eraseIdx j
  | [], _ => by simp
  | x :: l, 0 => rfl
  | x :: l, j + 1 => by simp [map_erase f l j]
theorem mem_erase {γ : Type} : ∀ {l : List γ} {j : Nat} {p : γ}, l[j]? = some p → ∀ x, x ∈ l ↔ x = p ∨ x ∈ l.eraseIdx j
  | [], _, _, h, _ => by simp at h
  | y :: l, 0, p, h, x => by
    simp only [List.getElem?_cons_zero, Option.some.injEq] at h
    subst h
    simp
  | y :: l, j + 1, p, h, x => by
    simp only [List.getElem?_cons_succ] at h
    have := mem_erase h x
    simp only [List.mem_cons, List.eraseIdx_cons_succ, this]
    constructor
    · rintro (q | q | q) <;> simp [q]
    · rintro (q | q | q) <;> simp [q]
end
section
variable {α β : Type}
variable {P : Program} {Γr : Ctx} {d : Option Nat} {rr : List SOper} {φ : Fr} {Γ : Ctx} {K : Fr → Ctx → Prop}
/-- for k, v := range m -/
theorem s_rng {L : Mem} {t kt et : TypeId} (ht : P.underlying t = some (.map kt et)) {b : Nat} {eK : α → Value} {eV : β → Value} {good : α → Prop} {l : List (α × β)} (hm : MapL L b eK eV good l) (hL : Mem.le L (lk (Γ ++ Γr)))
    (hk : ∀ r g, ItM L g r b eK eV l → vcOps P Γr rr (put φ d (.v true (.pointer (some ⟨r, 0, none⟩)))) (g :: Γ) K) : nC P Γr d rr φ Γ K (.rng t) [.map (some b)] := by
  intro w hw
  obtain ⟨es, clock, hb, he, hbo⟩ := hm.at'
  obtain ⟨h, hh, hb'⟩ := hL _ _ hb
  have hbw := hw h hh b _ hb'
  refine ⟨_, _, by simp only [qsem]; exact run_range_map w t kt et b es clock ht hbw, hk _ _ ⟨es, clock, #[], hb, hbo, one_self _ _, ?_⟩⟩
  have : leftOf es #[] = es := by
    unfold leftOf
    rw [Array.filter_eq_self]
    simp
  rw [this]
  exact he
theorem s_next {L : Mem} {g : PH} {ix r b : Nat} {eK : α → Value} {eV : β → Value} {left : List (α × β)} (hg : Γ[ix]? = some g) (hI : ItM L g r b eK eV left) (hL : Mem.le L (lk (Γ ++ Γr)))
    (hend : left = [] → vcOps P Γr rr (put φ d (.v true (.tuple #[.bool false]))) Γ K)
    (hk : ∀ g' p left', (∀ x, x ∈ left ↔ x = p ∨ x ∈ left') → left'.length + 1 = left.length → ItM L g' r b eK eV left' → CurM L g' r b (eK p.1) (eV p.2) → vcOps P Γr rr (put φ d (.v true (.tuple #[.bool true, eK p.1, eV p.2]))) (Γ.set ix g') K) :
    aC P Γr d rr φ Γ K (.next false) [.pointer (some ⟨r, 0, none⟩)] := by
  intro w hw
  obtain ⟨es, clock, seen, hb, hbo, hr, he⟩ := hI.at'
  obtain ⟨h, hh, hb'⟩ := hL _ _ hb
  have hbw := hw h hh b _ hb'
  have hgΓ : g ∈ Γ := List.mem_of_getElem? hg
  have hrw := hw g (by simp [hgΓ]) r _ hr
  have hold : ∀ x ∈ es.toList, x.born < clock := hbo.1
  rcases run_next_at (P := P) w 0 r b clock clock seen es clock hrw hbw hold (Nat.le_refl _) with ⟨h0, h1⟩ | ⟨e, hel, w1, hw1, h1⟩
  · refine ⟨_, w, 0, by simp only [qsem]; exact h1, .inl ⟨rfl, hend ?_⟩⟩
    have hl0 : (kvs (leftOf es seen).toList).length = 0 := by simp [kvs, h0]
    rw [he] at hl0
    exact List.eq_nil_of_length_eq_zero (by simpa [encs] using hl0)
  · obtain ⟨j, hj⟩ := List.getElem?_of_mem hel
    obtain ⟨p, hp, hk1, hv1⟩ : ∃ p, left[j]? = some p ∧ e.key = eK p.1 ∧ e.val = eV p.2 := by
      have h2 := congrArg (·[j]?) he
      simp only [kvs, encs, List.getElem?_map, hj, Option.map_some] at h2
      cases hq : left[j]? with
      | none => rw [hq] at h2; simp at h2
      | some p => rw [hq] at h2; simp at h2; exact ⟨p, rfl, h2.1, h2.2⟩
    have hes : e ∈ es.toList := by
      unfold leftOf at hel
      rw [Array.toList_filter] at hel
      exact (List.mem_filter.1 hel).1
    have hjl := (List.getElem?_eq_some_iff.1 hp).1
    have fin := hk (upd g r (.mapIter (some b) clock (seen.push e.born) clock)) p (left.eraseIdx j) (mem_erase hp) (by rw [List.length_eraseIdx_of_lt hjl]; omega)
      ⟨es, clock, _, hb, hbo, upd_self _ _ _, by
        rw [left_push hbo hj]
        have : kvs ((leftOf es seen).toList.eraseIdx j) = (kvs (leftOf es seen).toList).eraseIdx j := map_erase _ _ _
        rw [this, he]
        exact (map_erase _ _ _).symm⟩ ⟨es, clock, seen, e, hb, hbo, upd_self _ _ _, hes, hk1, hv1⟩
    rw [hk1, hv1] at h1
    rcases hw1 with rfl | rfl
    · exact ⟨_, _, 0, by simp only [qsem]; exact h1, .inr ⟨ix, g, r, _, _, hg, hr, rfl, fin⟩⟩
    · exact ⟨_, _, 1, by simp only [qsem]; exact h1, .inr ⟨ix, g, r, _, _, hg, hr, rfl, fin⟩⟩
theorem qr_entry {L : Mem} {g : PH} {r b : Nat} {k v : Value} (h : CurM L g r b k v) (hL : Mem.le L (lk Γ)) (hg : g ∈ Γ) : QR P .entry [.pointer (some ⟨r, 0, none⟩)] Γ (.tuple #[k, v]) := by
  intro w hw
  obtain ⟨es, clock, seen, e, hb, hbo, hr, hm, rfl, rfl⟩ := h
  obtain ⟨x, hx, hb'⟩ := hL _ _ hb
  simp only [qsem]
  have hr' := hw g hg r _ hr
  have hb2 := hw x hx b _ hb'
  have hf : es.find? (·.born == e.born) = some e := by rw [← Array.find?_toList]; exact find_born e es.toList hbo.2 hm
  simp only [Instr.entry, getObj, Sem.run_bind, Sem.run, hr', hb2, Result.andThen, Array.back?_push, bne_self_eq_false, Bool.false_eq_true, if_false, hf]
  rfl
/-- len(m) -/
theorem qr_len {t kt et : TypeId} (ht : P.underlying t = some (.map kt et)) {b : Nat} {eK : α → Value} {eV : β → Value} {good : α → Prop} {l : List (α × β)} (hm : MapL (lk Γ) b eK eV good l) : QR P (.bi 4 [t]) [.map (some b)] Γ (.int .i64 l.length) := by
  intro w hw
  obtain ⟨es, clock, hb, he, hbo⟩ := hm.at'
  obtain ⟨h, hh, hb'⟩ := hb
  have hbw := hw h hh b _ hb'
  have hsz : es.size = l.length := by
    have := congrArg List.length he
    simpa using this
  simp [qsem, Builtin.len_, run_underlying ht, MapKept.run_getObj_map hbw, goInt, hsz]
end
/-! m[k], .. = v, ..: the entry is laid first, and then written -/
section
variable {α β : Type} [DecidableEq α]
variable {P : Program} {Γr : Ctx} {d : Option Nat} {rr : List SOper} {φ : Fr} {Γ : Ctx} {K : Fr → Ctx → Prop}
/-- the map b reads as l, but for a new last entry at a -/
structure MentM (g : PH) (b : Nat) (eK : α → Value) (eV : β → Value) (good : α → Prop) (l : List (α × β)) (a : α) (stamp : Nat) : Prop where
  nodup : (l.map (·.1)).Nodup
  okA : good a
  okL : ∀ p ∈ l, good p.1
  new : a ∉ l.map (·.1)
  at' : ∃ (es : Array MapEntry) (v0 : Value), g b = some (.map (es.push { key := eK a, val := v0, born := stamp }) (stamp + 1)) ∧ es.toList.map (fun e => (e.key, e.val)) = l.map (fun p => (eK p.1, eV p.2)) ∧ Born es.toList stamp
theorem s_ment {t kt et : TypeId} {eK : α → Value} {eV : β → Value} {good : α → Prop} {z : Value} (T : KT P kt eK good) (ht : P.underlying t = some (.map kt et)) (hz : ∀ w, (zeroValue et).run P w = .ok z w) {g : PH} {ix b : Nat} {l : List (α × β)} (hg : Γ[ix]? = some g) (hm : MapM g b eK eV good l) {a : α} (ha : good a) (hno : a ∉ l.map (·.1))
    (hk : ∀ g' stamp, MentM g' b eK eV good l a stamp → (∀ k, k ≠ b → g' k = g k) → vcOps P Γr rr (put φ d (.v true (.tuple #[z, .int .i64 (stamp : Nat)]))) (Γ.set ix g') K) : aC P Γr d rr φ Γ K (.ment t) [.map (some b), eK a] := by
  intro w hw
  obtain ⟨es, clock, hb0, he, hbo⟩ := hm.at'
  have hgΓ : g ∈ Γ := List.mem_of_getElem? hg
  have hb := hw g (by simp [hgΓ]) b _ hb0
  have hc := T.check w false a ha
  rcases T.find w a ha es.toList (entry_good hm he) with ⟨h1, h2⟩ | ⟨j, e, h1, h2, h3⟩
  · refine ⟨_, setBlk w b (.map (es.push { key := eK a, val := z, born := clock }) (clock + 1)), 0, ?_, .inr ⟨ix, g, b, _, _, hg, hb0, rfl, hk _ clock ⟨hm.nodup, ha, hm.good, hno, es, z, upd_self _ _ _, he, hbo⟩ fun k hne => upd_other hne⟩⟩
    simp [qsem, Instr.mapEntry, run_underlying ht, MapKept.run_getObj_map hb, hc, h1, hz w, MapKept.run_setObj_map _ hb, Result.andThen, setBlk, goInt]
  · exfalso
    obtain ⟨p, hp, hk', hv⟩ := entry_of he h2
    have hpa : p.1 = a := T.inj _ _ (by rw [← hk', h3])
    exact hno (List.mem_map.2 ⟨p, List.mem_of_getElem? hp, hpa⟩)
theorem s_estore {t : TypeId} {eK : α → Value} {eV : β → Value} {good : α → Prop} {g : PH} {ix b : Nat} {l : List (α × β)} {a : α} {stamp : Nat} (hg : Γ[ix]? = some g) (hm : MentM g b eK eV good l a stamp) (v : β)
    (hk : ∀ g', MapM g' b eK eV good (l ++ [(a, v)]) → (∀ k, k ≠ b → g' k = g k) → vcOps P Γr rr (put φ d (.v true undef)) (Γ.set ix g') K) : aC P Γr d rr φ Γ K (.estore t) [.map (some b), .int .i64 (stamp : Nat), eV v] := by
  intro w hw
  obtain ⟨es, v0, hb0, he, hbo⟩ := hm.at'
  have hgΓ : g ∈ Γ := List.mem_of_getElem? hg
  have hb := hw g (by simp [hgΓ]) b _ hb0
  have hfind : (es.push { key := eK a, val := v0, born := stamp }).findIdx? (fun e => (e.born : Int) == (stamp : Int)) = some es.size := by
    have hn : es.findIdx? (fun e => (e.born : Int) == (stamp : Int)) = none := by
      rw [Array.findIdx?_eq_none_iff]
      intro x hx
      have := hbo.1 x (by simpa using hx)
      simp
      omega
    rw [Array.findIdx?_push, hn]
    simp
  have hmod : (es.push { key := eK a, val := v0, born := stamp }).modify es.size (fun e => { e with val := eV v }) = es.push { key := eK a, val := eV v, born := stamp } := by
    apply Array.ext
    · simp
    · intro i h1 h2
      rw [Array.getElem_modify]
      simp only [Array.getElem_push]
      split
      · rename_i e
        subst e
        simp
      · rename_i e
        have : i < es.size := by simp at h1; omega
        simp [this]
  refine ⟨undef, setBlk w b (.map (es.push { key := eK a, val := eV v, born := stamp }) (stamp + 1)), 0, ?_, .inr ⟨ix, g, b, _, _, hg, hb0, rfl, hk _ ⟨?_, ?_, _, _, upd_self _ _ _, ?_, ?_⟩ fun k hne => upd_other hne⟩⟩
  · simp only [qsem, Instr.entryStore, Sem.run_bind, MapKept.run_getObj_map hb, Result.andThen, asInt, asIntOf, Sem.run_pure, hfind, hmod, MapKept.run_setObj_map _ hb]
    rfl
  · rw [List.map_append, List.nodup_append]
    refine ⟨hm.nodup, by simp, ?_⟩
    rintro x hx y hy rfl
    simp at hy
    subst hy
    exact hm.new hx
  · intro p hp
    rcases List.mem_append.1 hp with hp | hp
    · exact hm.okL p hp
    · simp at hp
      subst hp
      exact hm.okA
  · rw [Array.toList_push, List.map_append, he, List.map_append]
    rfl
  · rw [Array.toList_push]
    refine ⟨fun e he => ?_, ?_⟩
    · rcases List.mem_append.1 he with he | he
      · have := hbo.1 e he; omega
      · simp at he; subst he; simp
    · rw [List.map_append, List.nodup_append]
      refine ⟨hbo.2, by simp, ?_⟩
      rintro x hx y hy rfl
      simp at hy
      obtain ⟨e, he, rfl⟩ := List.mem_map.1 hx
      have := hbo.1 e he
      omega
end
/-! bytes -/
structure By where
  n : UInt8
instance : Sc By := ⟨fun x => .int .u8 x.n.toNat, fun _ => rfl, fun _ => rfl⟩
theorem wrap_by {x : Int} (h0 : 0 ≤ x) (h1 : x < 256) : IntKind.u8.wrap x = ((UInt8.ofNat x.toNat).toNat : Int) := by
  rw [IntKind.wrap_u8]
  simp
  omega
theorem qr_bytes {P : Program} {Γ : Ctx} {s d e : TypeId} (hs : P.underlying s = some (.slice e)) (he : P.underlying e = some (.int .u8)) (hd : P.underlying d = some .string) {L : Mem} {A : Option Addr} {c : Nat} {xs : List By} (hx : SlOk L A c xs) (hL : Mem.le L (lk Γ)) :
    QR P (.cnv s d) [.slice A xs.length c] Γ (.string ⟨(xs.map (·.n)).toArray⟩) := by
  intro w hw
  simp only [qsem]
  have hstr : ∀ ys : List By, strOfNums (ys.map fun x => (x.n.toNat : Int)) = ⟨(ys.map (·.n)).toArray⟩ := fun ys => by
    unfold strOfNums
    congr 1
    simp
  cases A with
  | none =>
    have : xs = [] := hx.ofNone
    subst this
    rw [run_convert_bytes_nil w s e hs he _ _ d hd]
    rfl
  | some a =>
    rcases hx.at' with rfl | ⟨b, o, cells, T, fr, hA, hb, hc⟩
    · have := run_convert_bytes_string (P := P) w s d e (some a) 0 c hs he hd
      simp only [List.length_nil]
      rw [this, run_bytesToString w a 0 c [] (by
        have := run_loadCells_list (P := P) w a [] (by simp)
        simpa using this)]
      rfl
    · simp only [Option.some.injEq] at hA
      subst hA
      have := run_convert_bytes_arg (P := P) w s e hs he b o xs.length c (xs.map fun x => (x.n.toNat : Int)) (by simp) (fun i hi => by
        obtain ⟨cs, h1, h2⟩ := hc i xs[i] (List.getElem?_eq_getElem hi)
        have h1 := ok_sc h1
        subst h1
        have h3 := h2 0 (by simp [Rep.sz])
        obtain ⟨g, hg, hgb⟩ := hL _ _ hb
        have hwb := hw g hg b _ hgb
        simp only [World.cell?, hwb]
        simp [Rep.sz, Sc.enc] at h3
        simp [h3, List.getD, hi]) d hd
      rw [this, hstr]
end Go.Proofs.Ytniobbepliknmaa.V
/- The text of parlance/parlref5.RuleFault as a statement (slots: 0 g, 1 g, 3 seen, 4 _, 5 r, 6 key, 7 _, 8 s, 9 most); no condition. -/
namespace Go.Proofs.Ytniobbepliknmaa.V
open Go
def S42_1 : Stmt :=
  Stmt.seq
  (Stmt.region
    [SOper.mk (some 79) none (SOp.fld 0 (Operand.tmp 8)), SOper.mk (some 80) none (SOp.load false 1 (Operand.tmp 79))]
    [1, 3, 6, 8, 9, 46, 47, 48, 71, 72, 73, 80])
  (Stmt.cond (Operand.tmp 80)
    (Stmt.seq
      (Stmt.region
        [SOper.mk (some 81) none (SOp.fld 0 (Operand.tmp 1)),
          SOper.mk (some 82) none (SOp.load false 1 (Operand.tmp 81)), SOper.mk (some 9) none (SOp.mv (Operand.tmp 82))]
        [1, 3, 6, 8, 9, 46, 47, 48, 71, 72, 73])
      (Stmt.region
        [SOper.mk (some 83) none (SOp.mv (Operand.tmp 6)),
          SOper.mk (some 84) none
            (SOp.fn Fk.cat [Operand.tmp 83, Operand.const (Value.string (ByteArray.mk (Array.mk [UInt8.ofNat 116])))]),
          SOper.mk (some 6) none (SOp.mv (Operand.tmp 84))]
        [1, 3, 6, 8, 9, 46, 47, 48, 71, 72, 73]))
    (Stmt.region
      [SOper.mk (some 85) none (SOp.mv (Operand.tmp 6)),
        SOper.mk (some 86) none
          (SOp.fn Fk.cat [Operand.tmp 85, Operand.const (Value.string (ByteArray.mk (Array.mk [UInt8.ofNat 110])))]),
        SOper.mk (some 6) none (SOp.mv (Operand.tmp 86))]
      [1, 3, 6, 8, 9, 46, 47, 48, 71, 72, 73]))
def S42_2 : Stmt :=
  Stmt.seq
  (Stmt.seq
    (Stmt.region
      [SOper.mk (some 87) none (SOp.fld 1 (Operand.tmp 8)), SOper.mk (some 88) none (SOp.load false 1 (Operand.tmp 87)),
        SOper.mk (some 89) none (SOp.ibin BinOp.lss (Operand.tmp 88) (Operand.const (Value.int IntKind.i64 0))),
        SOper.mk (some 90) none (SOp.mv (Operand.tmp 89)),
        SOper.mk (some 91) (some (90, false)) (SOp.fld 1 (Operand.tmp 8)),
        SOper.mk (some 92) (some (90, false)) (SOp.load false 1 (Operand.tmp 91)),
        SOper.mk (some 93) (some (90, false)) (SOp.mv (Operand.tmp 9)),
        SOper.mk (some 94) (some (90, false)) (SOp.ibin BinOp.geq (Operand.tmp 92) (Operand.tmp 93)),
        SOper.mk (some 95) none (SOp.pick (Operand.tmp 90) (Operand.const (Value.bool true)) (Operand.tmp 94))]
      [1, 3, 6, 8, 46, 47, 48, 71, 72, 73, 95])
    (Stmt.cond (Operand.tmp 95)
      (Stmt.seq (Stmt.region [SOper.mk (some 2) none (SOp.mv (Operand.const (Value.int IntKind.i64 3)))] [2]) Stmt.ret)
      Stmt.skip))
  (Stmt.region
    [SOper.mk (some 96) none (SOp.mv (Operand.tmp 6)), SOper.mk (some 97) none (SOp.fld 1 (Operand.tmp 8)),
      SOper.mk (some 98) none (SOp.load false 1 (Operand.tmp 97)),
      SOper.mk (some 99) none (SOp.conv IntKind.i32 (Operand.tmp 98)),
      SOper.mk (some 100) none (SOp.fn Fk.rune [Operand.tmp 99]),
      SOper.mk (some 101) none (SOp.fn Fk.cat [Operand.tmp 96, Operand.tmp 100]),
      SOper.mk (some 6) none (SOp.mv (Operand.tmp 101))]
    [1, 3, 6, 46, 47, 48, 71, 72, 73])
def S42_3 : Stmt :=
  Stmt.block 3
  (Stmt.seq
    (Stmt.region
      [SOper.mk (some 75) none (SOp.idx 2 (Operand.tmp 71) (Operand.tmp 73)),
        SOper.mk (some 76) none (SOp.load true 2 (Operand.tmp 75)),
        SOper.mk (some 8) none (SOp.alloc true 39 (Value.agg (Array.mk [Value.bool false, Value.int IntKind.i64 0]))),
        SOper.mk none none (SOp.store 2 (Operand.tmp 8) (Operand.tmp 76))]
      [1, 3, 6, 8, 46, 47, 48, 71, 72, 73])
    (Stmt.seq
      (Stmt.region
        [SOper.mk (some 77) none (SOp.fld 1 (Operand.tmp 1)),
          SOper.mk (some 78) none (SOp.load false 1 (Operand.tmp 77)), SOper.mk (some 9) none (SOp.mv (Operand.tmp 78))]
        [1, 3, 6, 8, 9, 46, 47, 48, 71, 72, 73])
      (Stmt.join S42_1 S42_2 [6, 9] [1, 3, 8, 46, 47, 48, 71, 72, 73])))
def S42_4 : Stmt :=
  Stmt.region
  [SOper.mk (some 102) none (SOp.ibin BinOp.add (Operand.tmp 73) (Operand.const (Value.int IntKind.i64 1))),
    SOper.mk (some 73) none (SOp.mv (Operand.tmp 102))]
  [1, 3, 6, 46, 47, 48, 71, 72, 73]
def S42_5 : Stmt :=
  Stmt.seq
  (Stmt.region [SOper.mk (some 74) none (SOp.ibin BinOp.lss (Operand.tmp 73) (Operand.tmp 72))]
    [1, 3, 6, 46, 47, 48, 71, 72, 73, 74])
  (Stmt.seq (Stmt.cond (Operand.tmp 74) Stmt.skip (Stmt.exit 2))
    (Stmt.join S42_3 S42_4 [6] [1, 3, 46, 47, 48, 71, 72, 73]))
def S42_6 : Stmt :=
  Stmt.seq
  (Stmt.region [SOper.mk (some 49) none (SOp.ibin BinOp.lss (Operand.tmp 48) (Operand.tmp 47))] [1, 3, 46, 47, 48, 49])
  (Stmt.seq (Stmt.cond (Operand.tmp 49) Stmt.skip (Stmt.exit 0))
    (Stmt.seq
      (Stmt.block 1
        (Stmt.seq
          (Stmt.region
            [SOper.mk (some 50) none (SOp.idx 2 (Operand.tmp 46) (Operand.tmp 48)),
              SOper.mk (some 51) none (SOp.load true 2 (Operand.tmp 50)),
              SOper.mk (some 5) none
                (SOp.alloc true 37 (Value.agg (Array.mk [Value.int IntKind.i64 0, Value.slice none 0 0]))),
              SOper.mk none none (SOp.store 2 (Operand.tmp 5) (Operand.tmp 51))]
            [1, 3, 5, 46, 47, 48])
          (Stmt.seq
            (Stmt.seq
              (Stmt.region
                [SOper.mk (some 52) none (SOp.fld 0 (Operand.tmp 5)),
                  SOper.mk (some 53) none (SOp.load false 1 (Operand.tmp 52)),
                  SOper.mk (some 54) none
                    (SOp.ibin BinOp.lss (Operand.tmp 53) (Operand.const (Value.int IntKind.i64 0))),
                  SOper.mk (some 55) none (SOp.mv (Operand.tmp 54)),
                  SOper.mk (some 56) (some (55, false)) (SOp.fld 0 (Operand.tmp 5)),
                  SOper.mk (some 57) (some (55, false)) (SOp.load false 1 (Operand.tmp 56)),
                  SOper.mk (some 58) (some (55, false)) (SOp.fld 1 (Operand.tmp 1)),
                  SOper.mk (some 59) (some (55, false)) (SOp.load false 1 (Operand.tmp 58)),
                  SOper.mk (some 60) (some (55, false)) (SOp.ibin BinOp.geq (Operand.tmp 57) (Operand.tmp 59)),
                  SOper.mk (some 61) none
                    (SOp.pick (Operand.tmp 55) (Operand.const (Value.bool true)) (Operand.tmp 60))]
                [1, 3, 5, 46, 47, 48, 61])
              (Stmt.cond (Operand.tmp 61)
                (Stmt.seq (Stmt.region [SOper.mk (some 2) none (SOp.mv (Operand.const (Value.int IntKind.i64 3)))] [2])
                  Stmt.ret)
                Stmt.skip))
            (Stmt.seq
              (Stmt.seq
                (Stmt.region
                  [SOper.mk (some 62) none (SOp.fld 1 (Operand.tmp 5)),
                    SOper.mk (some 63) none (SOp.load false 1 (Operand.tmp 62)),
                    SOper.mk (some 64) none (SOp.len false (Operand.tmp 63)),
                    SOper.mk (some 65) none
                      (SOp.ibin BinOp.gtr (Operand.tmp 64) (Operand.const (Value.int IntKind.i64 4)))]
                  [1, 3, 5, 46, 47, 48, 65])
                (Stmt.cond (Operand.tmp 65)
                  (Stmt.seq
                    (Stmt.region [SOper.mk (some 2) none (SOp.mv (Operand.const (Value.int IntKind.i64 2)))] [2])
                    Stmt.ret)
                  Stmt.skip))
              (Stmt.seq
                (Stmt.region
                  [SOper.mk (some 66) none (SOp.fld 0 (Operand.tmp 5)),
                    SOper.mk (some 67) none (SOp.load false 1 (Operand.tmp 66)),
                    SOper.mk (some 68) none (SOp.conv IntKind.i32 (Operand.tmp 67)),
                    SOper.mk (some 69) none (SOp.fn Fk.rune [Operand.tmp 68]),
                    SOper.mk (some 6) none (SOp.mv (Operand.tmp 69))]
                  [1, 3, 5, 6, 46, 47, 48])
                (Stmt.seq
                  (Stmt.seq
                    (Stmt.region
                      [SOper.mk (some 70) none (SOp.fld 1 (Operand.tmp 5)),
                        SOper.mk (some 71) none (SOp.load false 1 (Operand.tmp 70)),
                        SOper.mk (some 72) none (SOp.len false (Operand.tmp 71)),
                        SOper.mk (some 73) none (SOp.mv (Operand.const (Value.int IntKind.i64 0)))]
                      [1, 3, 6, 46, 47, 48, 71, 72, 73])
                    (Stmt.block 2 (Stmt.loop S42_5 [6, 73] [1, 3, 46, 47, 48, 71, 72])))
                  (Stmt.seq
                    (Stmt.seq
                      (Stmt.region
                        [SOper.mk (some 103) none (SOp.mv (Operand.tmp 3)),
                          SOper.mk (some 104) none (SOp.mv (Operand.tmp 6)),
                          SOper.mk (some 105) none (SOp.q (Qk.look 118 false) [Operand.tmp 103, Operand.tmp 104])]
                        [1, 3, 6, 46, 47, 48, 105])
                      (Stmt.cond (Operand.tmp 105)
                        (Stmt.seq
                          (Stmt.region [SOper.mk (some 2) none (SOp.mv (Operand.const (Value.int IntKind.i64 6)))] [2])
                          Stmt.ret)
                        Stmt.skip))
                    (Stmt.region
                      [SOper.mk (some 106) none (SOp.mv (Operand.tmp 3)),
                        SOper.mk (some 107) none (SOp.mv (Operand.tmp 6)),
                        SOper.mk none none
                          (SOp.a (Qk.upd 118) [Operand.tmp 106, Operand.tmp 107, Operand.const (Value.bool true)])]
                      [1, 3, 46, 47, 48]))))))))
      (Stmt.region
        [SOper.mk (some 108) none (SOp.ibin BinOp.add (Operand.tmp 48) (Operand.const (Value.int IntKind.i64 1))),
          SOper.mk (some 48) none (SOp.mv (Operand.tmp 108))]
        [1, 3, 46, 47, 48])))
def S42_0 : Stmt :=
  Stmt.seq
  (Stmt.region
    [SOper.mk (some 1) none (SOp.box true 57 (Operand.tmp 0)),
      SOper.mk (some 2) none (SOp.mv (Operand.const (Value.int IntKind.i64 0)))]
    [1])
  (Stmt.seq
    (Stmt.seq
      (Stmt.region
        [SOper.mk (some 10) none (SOp.fld 0 (Operand.tmp 1)),
          SOper.mk (some 11) none (SOp.load false 1 (Operand.tmp 10)),
          SOper.mk (some 12) none (SOp.ibin BinOp.lss (Operand.tmp 11) (Operand.const (Value.int IntKind.i64 1))),
          SOper.mk (some 13) none (SOp.mv (Operand.tmp 12)),
          SOper.mk (some 14) (some (13, false)) (SOp.fld 0 (Operand.tmp 1)),
          SOper.mk (some 15) (some (13, false)) (SOp.load false 1 (Operand.tmp 14)),
          SOper.mk (some 16) (some (13, false))
            (SOp.ibin BinOp.gtr (Operand.tmp 15) (Operand.const (Value.int IntKind.i64 8))),
          SOper.mk (some 17) none (SOp.pick (Operand.tmp 13) (Operand.const (Value.bool true)) (Operand.tmp 16)),
          SOper.mk (some 18) none (SOp.mv (Operand.tmp 17)),
          SOper.mk (some 19) (some (18, false)) (SOp.fld 1 (Operand.tmp 1)),
          SOper.mk (some 20) (some (18, false)) (SOp.load false 1 (Operand.tmp 19)),
          SOper.mk (some 21) (some (18, false))
            (SOp.ibin BinOp.lss (Operand.tmp 20) (Operand.const (Value.int IntKind.i64 1))),
          SOper.mk (some 22) none (SOp.pick (Operand.tmp 18) (Operand.const (Value.bool true)) (Operand.tmp 21)),
          SOper.mk (some 23) none (SOp.mv (Operand.tmp 22)),
          SOper.mk (some 24) (some (23, false)) (SOp.fld 1 (Operand.tmp 1)),
          SOper.mk (some 25) (some (23, false)) (SOp.load false 1 (Operand.tmp 24)),
          SOper.mk (some 26) (some (23, false))
            (SOp.ibin BinOp.gtr (Operand.tmp 25) (Operand.const (Value.int IntKind.i64 10))),
          SOper.mk (some 27) none (SOp.pick (Operand.tmp 23) (Operand.const (Value.bool true)) (Operand.tmp 26)),
          SOper.mk (some 28) none (SOp.mv (Operand.tmp 27)),
          SOper.mk (some 29) (some (28, false)) (SOp.fld 2 (Operand.tmp 1)),
          SOper.mk (some 30) (some (28, false)) (SOp.load false 1 (Operand.tmp 29)),
          SOper.mk (some 31) (some (28, false))
            (SOp.ibin BinOp.lss (Operand.tmp 30) (Operand.const (Value.int IntKind.i64 0))),
          SOper.mk (some 32) none (SOp.pick (Operand.tmp 28) (Operand.const (Value.bool true)) (Operand.tmp 31)),
          SOper.mk (some 33) none (SOp.mv (Operand.tmp 32)),
          SOper.mk (some 34) (some (33, false)) (SOp.fld 2 (Operand.tmp 1)),
          SOper.mk (some 35) (some (33, false)) (SOp.load false 1 (Operand.tmp 34)),
          SOper.mk (some 36) (some (33, false)) (SOp.fld 1 (Operand.tmp 1)),
          SOper.mk (some 37) (some (33, false)) (SOp.load false 1 (Operand.tmp 36)),
          SOper.mk (some 38) (some (33, false)) (SOp.ibin BinOp.geq (Operand.tmp 35) (Operand.tmp 37)),
          SOper.mk (some 39) none (SOp.pick (Operand.tmp 33) (Operand.const (Value.bool true)) (Operand.tmp 38))]
        [1, 39])
      (Stmt.cond (Operand.tmp 39)
        (Stmt.seq (Stmt.region [SOper.mk (some 2) none (SOp.mv (Operand.const (Value.int IntKind.i64 1)))] [2])
          Stmt.ret)
        Stmt.skip))
    (Stmt.seq
      (Stmt.seq
        (Stmt.region
          [SOper.mk (some 40) none (SOp.fld 3 (Operand.tmp 1)),
            SOper.mk (some 41) none (SOp.load false 1 (Operand.tmp 40)),
            SOper.mk (some 42) none (SOp.len false (Operand.tmp 41)),
            SOper.mk (some 43) none (SOp.ibin BinOp.gtr (Operand.tmp 42) (Operand.const (Value.int IntKind.i64 32)))]
          [1, 43])
        (Stmt.cond (Operand.tmp 43)
          (Stmt.seq (Stmt.region [SOper.mk (some 2) none (SOp.mv (Operand.const (Value.int IntKind.i64 2)))] [2])
            Stmt.ret)
          Stmt.skip))
      (Stmt.seq
        (Stmt.region
          [SOper.mk (some 44) none (SOp.n (Qk.mkmap 118) []), SOper.mk (some 3) none (SOp.mv (Operand.tmp 44))] [1, 3])
        (Stmt.seq
          (Stmt.seq
            (Stmt.region
              [SOper.mk (some 45) none (SOp.fld 3 (Operand.tmp 1)),
                SOper.mk (some 46) none (SOp.load false 1 (Operand.tmp 45)),
                SOper.mk (some 47) none (SOp.len false (Operand.tmp 46)),
                SOper.mk (some 48) none (SOp.mv (Operand.const (Value.int IntKind.i64 0)))]
              [1, 3, 46, 47, 48])
            (Stmt.block 0 (Stmt.loop S42_6 [48] [1, 3, 46, 47])))
          (Stmt.seq (Stmt.region [SOper.mk (some 2) none (SOp.mv (Operand.const (Value.int IntKind.i64 0)))] [2])
            Stmt.ret)))))
def S42 : FnS := ⟨109, [(2, none)], S42_0⟩
theorem tr42 : trFn Try.prog 42 [1, 5, 8] [[1], [1, 39], [2], [1, 43], [2], [1, 3], [1, 3, 46, 47, 48], [48], [1, 3, 46, 47], [1, 3, 46, 47, 48, 49], [1, 3, 5, 46, 47, 48], [1, 3, 5, 46, 47, 48, 61], [2], [1, 3, 5, 46, 47, 48, 65], [2], [1, 3, 5, 6, 46, 47, 48], [1, 3, 6, 46, 47, 48, 71, 72, 73], [6, 73], [1, 3, 46, 47, 48, 71, 72], [1, 3, 6, 46, 47, 48, 71, 72, 73, 74], [6], [1, 3, 46, 47, 48, 71, 72, 73], [1, 3, 6, 8, 46, 47, 48, 71, 72, 73], [1, 3, 6, 8, 9, 46, 47, 48, 71, 72, 73], [6, 9], [1, 3, 8, 46, 47, 48, 71, 72, 73], [1, 3, 6, 8, 9, 46, 47, 48, 71, 72, 73, 80], [1, 3, 6, 8, 9, 46, 47, 48, 71, 72, 73], [1, 3, 6, 8, 9, 46, 47, 48, 71, 72, 73], [1, 3, 6, 8, 9, 46, 47, 48, 71, 72, 73], [1, 3, 6, 8, 46, 47, 48, 71, 72, 73, 95], [2], [1, 3, 6, 46, 47, 48, 71, 72, 73], [1, 3, 6, 46, 47, 48, 71, 72, 73], [1, 3, 6, 46, 47, 48, 105], [2], [1, 3, 46, 47, 48], [1, 3, 46, 47, 48], [2]] = some S42 := by kernel_rfl
end Go.Proofs.Ytniobbepliknmaa.V
/- Grammars are checked once more: parlref5.RuleFault walked; no condition. -/
namespace Go.Proofs.Ytniobbepliknmaa.V
open Go
set_option linter.unusedVariables false
set_option linter.unusedSimpArgs false
attribute [local go_sem] e_seq e_region e_quiet e_join e_loop e_cond e_block e_exit e_ret e_skip e_fin e_kseq e_snrm e_sret e_sex e_bnrm e_bret e_bex e_rnrm e_rret e_res e_condC e_nil e_g e_mv g_mv e_pick g_pick pickC_eq e_ibin g_ibin ibinC_eq e_sbin g_sbin e_beq g_beq beqC_eq e_nilq g_nilq nilqC_sl nilqC_pt nilqC_mp e_un g_un unC_not unC_neg e_conv g_conv convC_eq e_fld g_fld fldC_ref fldC_ptr e_nilCheck g_nilCheck nilCheckC_ref nilCheckC_ptr nilCheckC_fun e_field g_field fieldC_eq e_len g_len lenC_sl lenC_str e_extract g_extract extractC_eq e_mkFunc e_build g_build e_idiv g_idiv idivC_eq e_ishift g_ishift ishiftC_eq e_idx g_idx e_idxA g_idxA e_load g_load loadC_ref loadC_ptr loadB_eq e_slc g_slc e_box boxC_loc boxC_esc e_alloc allocC_loc allocC_esc e_buildS e_store storeC_ref storeC_ptr storeB_eq e_append e_appz e_mk mkC_eq e_call callC_eq e_fn g_fn fnC_eq fnV_min' fnV_max' fnV_rune' e_q g_q e_a e_n g_call g_box g_alloc g_buildS g_store g_append g_mk g_a g_n g_dead e_dead e_callK e_drawn e_tree e_finJ e_tk e_tfin e_tno e_nbt_q e_nbt_qn e_nbt_a e_nbt_an e_nbt_fin e_early_nil e_early_t e_early_f e_nob_nil e_nob_none e_nob_some isBox_dead isBox_v isBox_ref e_dnil e_dk e_ek e_finB vcOps_vc1 e_dcons e_tq e_ekt e_tearly e_talt e_dearly look_nil look_c proj_nil proj_c looks_nil looks_c zip_nil zip_c val_tmp val_const val_func slv_v slv_box slv_ref slot_tmp slot_const slot_func slotL_v slotL_box slotL_ref put_some put_none updBox_c boxSet_box gd_eq slotVals_nil slotVals_c slotVals_b boxV_box boxOn_box slotsOn_nil slotsOn_c slotsOn_b resV_one resV_two vals_nil vals_c allOn_nil allOn_c partOn_nil partOn_c partVals_nil partVals_c fits_nil fits_c fillL_nil fillL_c mkv_one mkv_agg cellsV_agg cellsV_int cellsV_bool cellsV_slice cellsV_string cellsV_pointer cellsV_func cellsV_nilf cellsV_map one'_nil one'_c oc_int oc_bool oc_slice oc_string oc_pointer oc_func oc_nilf oc_map setC_eq iv_add iv_sub iv_mul iv_eql iv_neq iv_lss iv_leq iv_gtr iv_geq iok_add iok_sub iok_mul iok_eql iok_neq iok_lss iok_leq iok_gtr iok_geq pickV_bool args0_nil args0_c bnd_none bnd_some imp_bt imp_bf imp_ebt imp_ebf imp_eb1 imp_np imp_pp beq_tt beq_tf beq_ft beq_ff cond_or cond_and e_round e_meet Int.le_refl Int.toNat_zero decide_true decide_false Bool.or_false Bool.false_or Bool.true_or Bool.or_true Bool.and_false Bool.false_and Bool.bne_false Bool.bne_true beq_iff_eq Int.cast_ofNat_Int not_false_eq_true not_true_eq_false false_and and_false false_implies true_implies true_and and_true Bool.true_and Bool.and_true Bool.not_true Bool.not_false forall_const implies_true List.take_zero List.drop_zero List.take_succ_cons List.drop_succ_cons List.take_nil List.drop_nil List.length_cons List.length_nil List.nil_append List.append_nil List.cons_append Int.toNat_natCast decide_eq_true_eq decide_eq_false_iff_not cond_true cond_false and_self List.getElem?_cons_zero List.getElem?_cons_succ List.set_cons_zero List.set_cons_succ Option.some.injEq exists_eq_left' Nat.zero_add Nat.add_zero Nat.mul_one imp_self true_or or_true or_false false_or Bool.or_eq_true Bool.or_eq_false_iff Bool.and_eq_true Bool.and_eq_false_iff Bool.not_eq_true' Bool.not_eq_false'

def strB (l : List UInt8) : Value := .string ⟨l.toArray⟩
theorem strB_inj (a b : List UInt8) (h : strB a = strB b) : a = b := by
  simp only [strB, Value.string.injEq, ByteArray.mk.injEq] at h
  simpa using congrArg Array.toList h
theorem kt_str {P : Program} {k : TypeId} (hk : P.underlying k = some .string) : KT P k strB (fun l => l.length ≤ 1000) :=
  KT.of (Maps.string_keyed hk) strB_inj fun a ha => ⟨Lit.string a, by simp [strB, keyOf, hk, mapKey, ByteArray.size]; unfold maxLen; omega⟩
theorem rune_str {n : Int} (h0 : 0 ≤ n) (h1 : n < 10) : Value.string (Utf8.encode (IntKind.i32.wrap n)) = strB [UInt8.ofNat n.toNat] := by
  obtain ⟨m, rfl⟩ : ∃ m : Nat, n = m := ⟨n.toNat, by omega⟩
  have : m = 0 ∨ m = 1 ∨ m = 2 ∨ m = 3 ∨ m = 4 ∨ m = 5 ∨ m = 6 ∨ m = 7 ∨ m = 8 ∨ m = 9 := by omega
  rcases this with rfl | rfl | rfl | rfl | rfl | rfl | rfl | rfl | rfl | rfl <;> rfl
theorem fn_cat {a b : List UInt8} (h : a.length + b.length ≤ 1000000) : fnV .cat [strB a, strB b] = some (strB (a ++ b)) := by
  have : (ByteArray.mk a.toArray).size + (ByteArray.mk b.toArray).size ≤ 9223372036854775807 := by simp only [ByteArray.size, List.size_toArray]; omega
  simp only [fnV, strB, if_pos this]
  refine congrArg (fun x => some (Value.string x)) (ByteArray.ext ?_)
  simp

def symK (s : Sy) : List UInt8 := [if s.t then 116 else 110, UInt8.ofNat s.n.toNat]
def symsK (l : List Sy) : List UInt8 := l.flatMap symK
def keyK (r : Ru) : List UInt8 := UInt8.ofNat r.l.toNat :: symsK r.r
def okSy (s : Sy) : Prop := 0 ≤ s.n ∧ s.n < 10
theorem byte_inj {a b : Int} (h0 : 0 ≤ a) (h1 : a < 10) (h2 : 0 ≤ b) (h3 : b < 10) (h : UInt8.ofNat a.toNat = UInt8.ofNat b.toNat) : a = b := by
  have := congrArg UInt8.toNat h
  simp only [UInt8.toNat_ofNat'] at this
  omega
theorem symK_inj {s t : Sy} (hs : okSy s) (ht : okSy t) (h : symK s = symK t) : s = t := by
  obtain ⟨a, m⟩ := s
  obtain ⟨b, n⟩ := t
  simp only [symK, List.cons.injEq, and_true] at h
  have := byte_inj hs.1 hs.2 ht.1 ht.2 h.2
  simp only at this
  subst this
  cases a <;> cases b <;> simp at h ⊢
theorem symsK_inj : ∀ {l k : List Sy}, (∀ s ∈ l, okSy s) → (∀ s ∈ k, okSy s) → symsK l = symsK k → l = k
  | [], [], _, _, _ => rfl
  | [], t :: k, _, _, h => by simp [symsK, symK] at h
  | s :: l, [], _, _, h => by simp [symsK, symK] at h
  | s :: l, t :: k, hl, hk, h => by
    have e : symsK (s :: l) = symK s ++ symsK l := rfl
    have e' : symsK (t :: k) = symK t ++ symsK k := rfl
    rw [e, e'] at h
    have h1 := List.append_inj h rfl
    rw [symK_inj (hl s (by simp)) (hk t (by simp)) h1.1, symsK_inj (fun x hx => hl x (by simp [hx])) (fun x hx => hk x (by simp [hx])) h1.2]
theorem symsK_len (l : List Sy) : (symsK l).length = 2 * l.length := by
  induction l with
  | nil => rfl
  | cons s l ih => rw [show symsK (s :: l) = symK s ++ symsK l from rfl, List.length_append, ih]; simp [symK]; omega

theorem rule_fault {Γr : Ctx} {g : Gr} {A : Option Addr} {c : Nat} (hx : SlOk (lk Γr) A c g.rs) :
    Ret Try.prog 42 [.agg #[.int .i64 g.ts, .int .i64 g.ns, .int .i64 g.st, .slice A g.rs.length c]] Γr [] (fun v Γ => Γ = [] ∧ v = .int .i64 (ckF g)) := by
  generalize hR : (fun (v : Value) (Γ : Ctx) => Γ = [] ∧ _) = R
  refine ret_of_vc tr42 (Nat.le_of_ble_eq_true rfl) ?_
  simp -implicitDefEqProofs only [S42, S42_0, go_sem, Nat.reduceBEq, Nat.reduceAdd, Nat.reduceSub, Nat.reduceMul, Nat.reduceLeDiff, reduceCtorEq, ↓reduceIte, Int.reduceLT, Int.reduceLE, Int.reduceEq, Int.reduceNe]
  intro b
  refine ⟨fun h => Up.here ?_, fun hok => ⟨fun h => Up.here ?_, fun h32 => ?_⟩⟩
  · subst hR
    exact ⟨rfl, by rw [ckF, if_pos (by unfold badHead; omega)]⟩
  · subst hR
    exact ⟨rfl, by rw [ckF, if_neg (by unfold badHead; omega), if_pos (by omega)]⟩
  have hck : ckF g = ckR g g.rs.length := by rw [ckF, if_neg (by unfold badHead; omega), if_neg (by omega)]
  refine s_mkmap fun bm => ?_
  simp -implicitDefEqProofs only [go_sem, Nat.reduceBEq, Nat.reduceAdd, Nat.reduceSub, Nat.reduceMul, Nat.reduceLeDiff, reduceCtorEq, ↓reduceIte, Int.reduceLT, Int.reduceLE, Int.reduceEq, Int.reduceNe]
  have hkt : KT Try.prog 9 strB (fun l => l.length ≤ 1000) := kt_str (by kernel_rfl)
  refine s_loop (fun f vs Γ => ∃ gm, Γ = [gm] ∧ ∃ (k : Nat), vs = [.v true (.int .i64 k)] ∧ k + f = g.rs.length ∧ ckR g k = 0 ∧ (∀ r ∈ g.rs.take k, (0 ≤ r.l ∧ r.l < 10) ∧ r.r.length ≤ 4 ∧ ∀ s ∈ r.r, okSy s) ∧ MapM gm bm strB Value.bool (fun l => l.length ≤ 1000) (mset keyK (g.rs.take k))) g.rs.length
    (Up.here ⟨_, rfl, 0, rfl, by omega, rfl, by simp, MapM.new _ _ _ _⟩) ?_
  rintro f vs Γ ⟨gm, rfl, k, rfl, hkf, hck0, hall, hM⟩
  simp -implicitDefEqProofs only [S42_6, go_sem, Nat.reduceBEq, Nat.reduceAdd, Nat.reduceSub, Nat.reduceMul, Nat.reduceLeDiff, reduceCtorEq, ↓reduceIte, Int.reduceLT, Int.reduceLE, Int.reduceEq, Int.reduceNe]
  refine ⟨fun hlt => ?_, fun hge => ?_⟩
  · have hk : k < g.rs.length := by omega
    have hgen : ∀ x, faultAt g k g.rs[k] = x → x ≠ 0 → ckF g = x := fun x h1 h2 => by rw [hck, ckR_fault hk hck0 (by rw [h1]; exact h2), h1]
    have hzero : faultAt g k g.rs[k] = 0 → ckR g (k + 1) = 0 := fun h => by rw [ckR_step hk hck0, h]
    obtain ⟨b1, o1, hA, A', c', hr, hc1⟩ := hx.ru hk
    have hrl := hr.short
    refine s_idx hA (by omega) (by omega) ?_
    simp -implicitDefEqProofs only [go_sem, Nat.reduceBEq, Nat.reduceAdd, Nat.reduceSub, Nat.reduceMul, Nat.reduceLeDiff, reduceCtorEq, ↓reduceIte, Int.reduceLT, Int.reduceLE, Int.reduceEq, Int.reduceNe]
    refine s_ld0 (hc1 _ (lk_r _ _)) (by simp) (by simp) ?_
    simp -implicitDefEqProofs only [go_sem, Nat.reduceBEq, Nat.reduceAdd, Nat.reduceSub, Nat.reduceMul, Nat.reduceLeDiff, reduceCtorEq, ↓reduceIte, Int.reduceLT, Int.reduceLE, Int.reduceEq, Int.reduceNe]
    refine ⟨fun h => Up.to [] (Ent.nil _) ?_, fun hl => ⟨fun h => Up.to [] (Ent.nil _) ?_, fun h4 => ?_⟩⟩
    · subst hR
      exact ⟨rfl, by rw [hgen 3 (by rw [faultAt, if_pos h]) (by decide)]⟩
    · subst hR
      exact ⟨rfl, by rw [hgen 2 (by rw [faultAt, if_neg (by omega), if_pos (by omega)]) (by decide)]⟩
    have hf1 : faultAt g k g.rs[k] = if g.rs[k].r.any (badSy g.ts g.ns) = true then 3 else if g.rs[k] ∈ g.rs.take k then 6 else 0 := by
      rw [faultAt, if_neg (by omega), if_neg (by omega)]
    rw [rune_str (by omega) (by omega)]
    refine s_loop (fun f' vs Γ => ∃ gm, Γ = [gm] ∧ MapM gm bm strB Value.bool (fun l => l.length ≤ 1000) (mset keyK (g.rs.take k)) ∧ ∃ j : Nat, vs = [.v true (strB (UInt8.ofNat g.rs[k].l.toNat :: symsK (g.rs[k].r.take j))), .v true (.int .i64 j)] ∧ j + f' = g.rs[k].r.length ∧ ∀ (i : Nat) (h : i < g.rs[k].r.length), i < j → badSy g.ts g.ns g.rs[k].r[i] = false ∧ okSy g.rs[k].r[i]) g.rs[k].r.length
      (Up.here ⟨_, rfl, hM, 0, rfl, by omega, by intro i _ h; omega⟩) ?_
    rintro f' vs Γ ⟨gm, rfl, hM, j, rfl, hjf, hno⟩
    simp -implicitDefEqProofs only [S42_5, go_sem, Nat.reduceBEq, Nat.reduceAdd, Nat.reduceSub, Nat.reduceMul, Nat.reduceLeDiff, reduceCtorEq, ↓reduceIte, Int.reduceLT, Int.reduceLE, Int.reduceEq, Int.reduceNe]
    refine ⟨fun hlt => ?_, fun hge => ?_⟩
    · have hj : j < g.rs[k].r.length := by omega
      refine s_split ?_
      simp -implicitDefEqProofs only [S42_3, S42_4, go_sem, Nat.reduceBEq, Nat.reduceAdd, Nat.reduceSub, Nat.reduceMul, Nat.reduceLeDiff, reduceCtorEq, ↓reduceIte, Int.reduceLT, Int.reduceLE, Int.reduceEq, Int.reduceNe]
      obtain ⟨b3, o3, hA3, hc3⟩ := hr.sy hj
      refine s_idx hA3 (by omega) (by omega) ?_
      simp -implicitDefEqProofs only [go_sem, Nat.reduceBEq, Nat.reduceAdd, Nat.reduceSub, Nat.reduceMul, Nat.reduceLeDiff, reduceCtorEq, ↓reduceIte, Int.reduceLT, Int.reduceLE, Int.reduceEq, Int.reduceNe]
      refine s_ld0 (hc3 _ (lk_r _ _)) (by simp) (by simp) ?_
      simp -implicitDefEqProofs only [go_sem, Nat.reduceBEq, Nat.reduceAdd, Nat.reduceSub, Nat.reduceMul, Nat.reduceLeDiff, reduceCtorEq, ↓reduceIte, Int.reduceLT, Int.reduceLE, Int.reduceEq, Int.reduceNe]
      intro b4
      have hlen1 : (symsK (g.rs[k].r.take j)).length ≤ 8 := by rw [symsK_len, List.length_take]; omega
      refine s_join (fun vs Γ' => Γ' = [gm] ∧ vs = [.v true (strB (UInt8.ofNat g.rs[k].l.toNat :: symsK (g.rs[k].r.take j) ++ [if g.rs[k].r[j].t then 116 else 110])), .v true (.int .i64 (if g.rs[k].r[j].t then g.ts else g.ns))]) ?_ ?_
      · simp -implicitDefEqProofs only [S42_1, go_sem, Nat.reduceBEq, Nat.reduceAdd, Nat.reduceSub, Nat.reduceMul, Nat.reduceLeDiff, reduceCtorEq, ↓reduceIte, Int.reduceLT, Int.reduceLE, Int.reduceEq, Int.reduceNe]
        refine ⟨fun ht => ?_, fun ht => ?_⟩
        · rw [show Value.string (ByteArray.mk (Array.mk [UInt8.ofNat 116])) = strB [116] from rfl, fn_cat (by simp only [List.length_cons, List.length_nil]; omega)]
          simp -implicitDefEqProofs only [go_sem, Nat.reduceBEq, Nat.reduceAdd, Nat.reduceSub, Nat.reduceMul, Nat.reduceLeDiff, reduceCtorEq, ↓reduceIte, Int.reduceLT, Int.reduceLE, Int.reduceEq, Int.reduceNe]
          exact Up.here ⟨rfl, by rw [ht]; rfl⟩
        · rw [show Value.string (ByteArray.mk (Array.mk [UInt8.ofNat 110])) = strB [110] from rfl, fn_cat (by simp only [List.length_cons, List.length_nil]; omega)]
          simp -implicitDefEqProofs only [go_sem, Nat.reduceBEq, Nat.reduceAdd, Nat.reduceSub, Nat.reduceMul, Nat.reduceLeDiff, reduceCtorEq, ↓reduceIte, Int.reduceLT, Int.reduceLE, Int.reduceEq, Int.reduceNe]
          exact Up.here ⟨rfl, by rw [ht]; rfl⟩
      · rintro vs Γ' ⟨rfl, rfl⟩
        simp -implicitDefEqProofs only [S42_2, go_sem, Nat.reduceBEq, Nat.reduceAdd, Nat.reduceSub, Nat.reduceMul, Nat.reduceLeDiff, reduceCtorEq, ↓reduceIte, Int.reduceLT, Int.reduceLE, Int.reduceEq, Int.reduceNe]
        refine ⟨fun h => Up.to [] (Ent.nil _) ?_, fun h => ?_⟩
        · have hb : g.rs[k].r.any (badSy g.ts g.ns) = true := List.any_eq_true.2 ⟨g.rs[k].r[j], List.getElem_mem hj, by
            unfold badSy
            cases ht : g.rs[k].r[j].t <;> simp only [ht, if_true, if_false, Bool.false_eq_true] at h <;> simp <;> omega⟩
          subst hR
          exact ⟨rfl, by rw [hgen 3 (by rw [hf1, if_pos hb]) (by decide)]⟩
        · have hok2 : okSy g.rs[k].r[j] := by
            unfold okSy
            cases ht : g.rs[k].r[j].t <;> simp only [ht, if_true, if_false, Bool.false_eq_true] at h <;> omega
          have hnb : badSy g.ts g.ns g.rs[k].r[j] = false := by
            unfold badSy
            cases ht : g.rs[k].r[j].t <;> simp only [ht, if_true, if_false, Bool.false_eq_true] at h <;> simp <;> omega
          rw [rune_str hok2.1 hok2.2, fn_cat (by simp only [List.length_cons, List.length_append, List.length_nil]; omega)]
          simp -implicitDefEqProofs only [go_sem, Nat.reduceBEq, Nat.reduceAdd, Nat.reduceSub, Nat.reduceMul, Nat.reduceLeDiff, reduceCtorEq, ↓reduceIte, Int.reduceLT, Int.reduceLE, Int.reduceEq, Int.reduceNe]
          simp (disch := omega) only [wrap_id]
          refine Up.here ⟨f' - 1, by omega, Up.here ⟨_, rfl, hM, j + 1, ?_, by omega, fun i hi hij => ?_⟩⟩
          · have e : symsK (g.rs[k].r.take (j + 1)) = symsK (g.rs[k].r.take j) ++ symK g.rs[k].r[j] := by
              rw [List.take_succ_eq_append_getElem hj]
              simp only [symsK, List.flatMap_append, List.flatMap_cons, List.flatMap_nil, List.append_nil]
            rw [e]
            simp [symK]
          · by_cases e : i = j
            · subst e; exact ⟨hnb, hok2⟩
            · exact hno i hi (by omega)
    have hj : j = g.rs[k].r.length := by omega
    rw [hj, List.take_length]
    have hnb : ¬ (g.rs[k].r.any (badSy g.ts g.ns) = true) := by
      intro h
      obtain ⟨x, hx, hb⟩ := List.any_eq_true.1 h
      obtain ⟨i, hi, rfl⟩ := List.getElem_of_mem hx
      rw [(hno i hi (by omega)).1] at hb
      cases hb
    have hf2 : faultAt g k g.rs[k] = if g.rs[k] ∈ g.rs.take k then 6 else 0 := by rw [hf1, if_neg hnb]
    have hokr : (0 ≤ g.rs[k].l ∧ g.rs[k].l < 10) ∧ g.rs[k].r.length ≤ 4 ∧ ∀ s ∈ g.rs[k].r, okSy s := by
      refine ⟨by omega, by omega, fun s hs => ?_⟩
      obtain ⟨i, hi, rfl⟩ := List.getElem_of_mem hs
      exact (hno i hi (by omega)).2
    rw [show UInt8.ofNat g.rs[k].l.toNat :: symsK g.rs[k].r = keyK g.rs[k] from rfl]
    have hkl : (keyK g.rs[k]).length ≤ 1000 := by simp only [keyK, List.length_cons, symsK_len]; omega
    have hkinj : ∀ r ∈ g.rs.take k, keyK r = keyK g.rs[k] → r = g.rs[k] := by
      intro r hr he
      have h1 := hall r hr
      simp only [keyK, List.cons.injEq] at he
      have e1 := byte_inj h1.1.1 h1.1.2 hokr.1.1 hokr.1.2 he.1
      have e2 := symsK_inj h1.2.2 hokr.2.2 he.2
      cases r
      simp only at e1 e2
      rw [e1, e2]
    refine s_q trivial (qr_look hkt (et := 4) (z := .bool false) (by kernel_rfl) (zero_run (by kernel_rfl)) false (hM.l (by simp)) hkl) ?_
    simp -implicitDefEqProofs only [go_sem, Nat.reduceBEq, Nat.reduceAdd, Nat.reduceSub, Nat.reduceMul, Nat.reduceLeDiff, reduceCtorEq, ↓reduceIte, Int.reduceLT, Int.reduceLE, Int.reduceEq, Int.reduceNe]
    rw [mget_set]
    by_cases hin : g.rs[k] ∈ g.rs.take k
    · rw [if_pos (List.mem_map.2 ⟨_, hin, rfl⟩)]
      simp only [Option.elim_some]
      simp -implicitDefEqProofs only [go_sem, Nat.reduceBEq, Nat.reduceAdd, Nat.reduceSub, Nat.reduceMul, Nat.reduceLeDiff, reduceCtorEq, ↓reduceIte, Int.reduceLT, Int.reduceLE, Int.reduceEq, Int.reduceNe]
      refine Up.to [] (Ent.nil _) ?_
      subst hR
      exact ⟨rfl, by rw [hgen 6 (by rw [hf2, if_pos hin]) (by decide)]⟩
    · have hnk : keyK g.rs[k] ∉ (g.rs.take k).map keyK := by
        intro h
        obtain ⟨r, hr, he⟩ := List.mem_map.1 h
        exact hin (hkinj r hr he ▸ hr)
      rw [if_neg hnk]
      simp only [Option.elim_none]
      simp -implicitDefEqProofs only [go_sem, Nat.reduceBEq, Nat.reduceAdd, Nat.reduceSub, Nat.reduceMul, Nat.reduceLeDiff, reduceCtorEq, ↓reduceIte, Int.reduceLT, Int.reduceLE, Int.reduceEq, Int.reduceNe]
      refine s_upd hkt (et := 4) (ix := 0) (eV := Value.bool) (by kernel_rfl) rfl hM true hkl ?_
      intro g' hM' _
      rw [mput_set _ _ _ hnk, ← List.take_succ_eq_append_getElem hk] at hM'
      simp -implicitDefEqProofs only [go_sem, Nat.reduceBEq, Nat.reduceAdd, Nat.reduceSub, Nat.reduceMul, Nat.reduceLeDiff, reduceCtorEq, ↓reduceIte, Int.reduceLT, Int.reduceLE, Int.reduceEq, Int.reduceNe]
      simp (disch := omega) only [wrap_id]
      refine ⟨f - 1, by omega, Up.here ⟨_, rfl, k + 1, rfl, by omega, hzero (by rw [hf2, if_neg hin]), fun r hr => ?_, hM'⟩⟩
      rw [List.take_succ_eq_append_getElem hk, List.mem_append, List.mem_singleton] at hr
      rcases hr with hr | rfl
      · exact hall r hr
      · exact hokr
  · have hk : k = g.rs.length := by omega
    subst hk
    refine Up.to [] (Ent.nil _) ?_
    subst hR
    exact ⟨rfl, by rw [hck, hck0]⟩
end Go.Proofs.Ytniobbepliknmaa.V
/- Sets of texts, and rows of them; no condition. -/
namespace Go.Proofs.Ytniobbepliknmaa.V
open Go
set_option linter.unusedVariables false
set_option linter.unusedSimpArgs false
set_option linter.unusedSectionVars false
attribute [local go_sem] e_seq e_region e_quiet e_join e_loop e_cond e_block e_exit e_ret e_skip e_fin e_kseq e_snrm e_sret e_sex e_bnrm e_bret e_bex e_rnrm e_rret e_res e_condC e_nil e_g e_mv g_mv e_pick g_pick pickC_eq e_ibin g_ibin ibinC_eq e_sbin g_sbin e_beq g_beq beqC_eq e_nilq g_nilq nilqC_sl nilqC_pt nilqC_mp e_un g_un unC_not unC_neg e_conv g_conv convC_eq e_fld g_fld fldC_ref fldC_ptr e_nilCheck g_nilCheck nilCheckC_ref nilCheckC_ptr nilCheckC_fun e_field g_field fieldC_eq e_len g_len lenC_sl lenC_str e_extract g_extract extractC_eq e_mkFunc e_build g_build e_idiv g_idiv idivC_eq e_ishift g_ishift ishiftC_eq e_idx g_idx e_idxA g_idxA e_load g_load loadC_ref loadC_ptr loadB_eq e_slc g_slc e_box boxC_loc boxC_esc e_alloc allocC_loc allocC_esc e_buildS e_store storeC_ref storeC_ptr storeB_eq e_append e_appz e_mk mkC_eq e_call callC_eq e_fn g_fn fnC_eq fnV_min' fnV_max' fnV_rune' e_q g_q e_a e_n g_call g_box g_alloc g_buildS g_store g_append g_mk g_a g_n g_dead e_dead e_callK e_drawn e_tree e_finJ e_tk e_tfin e_tno e_nbt_q e_nbt_qn e_nbt_a e_nbt_an e_nbt_fin e_early_nil e_early_t e_early_f e_nob_nil e_nob_none e_nob_some isBox_dead isBox_v isBox_ref e_dnil e_dk e_ek e_finB vcOps_vc1 e_dcons e_tq e_ekt e_tearly e_talt e_dearly look_nil look_c proj_nil proj_c looks_nil looks_c zip_nil zip_c val_tmp val_const val_func slv_v slv_box slv_ref slot_tmp slot_const slot_func slotL_v slotL_box slotL_ref put_some put_none updBox_c boxSet_box gd_eq slotVals_nil slotVals_c slotVals_b boxV_box boxOn_box slotsOn_nil slotsOn_c slotsOn_b resV_one resV_two vals_nil vals_c allOn_nil allOn_c partOn_nil partOn_c partVals_nil partVals_c fits_nil fits_c fillL_nil fillL_c mkv_one mkv_agg cellsV_agg cellsV_int cellsV_bool cellsV_slice cellsV_string cellsV_pointer cellsV_func cellsV_nilf cellsV_map one'_nil one'_c oc_int oc_bool oc_slice oc_string oc_pointer oc_func oc_nilf oc_map setC_eq iv_add iv_sub iv_mul iv_eql iv_neq iv_lss iv_leq iv_gtr iv_geq iok_add iok_sub iok_mul iok_eql iok_neq iok_lss iok_leq iok_gtr iok_geq pickV_bool args0_nil args0_c bnd_none bnd_some imp_bt imp_bf imp_ebt imp_ebf imp_eb1 imp_np imp_pp beq_tt beq_tf beq_ft beq_ff cond_or cond_and e_round e_meet Int.le_refl Int.toNat_zero decide_true decide_false Bool.or_false Bool.false_or Bool.true_or Bool.or_true Bool.and_false Bool.false_and Bool.bne_false Bool.bne_true beq_iff_eq Int.cast_ofNat_Int not_false_eq_true not_true_eq_false false_and and_false false_implies true_implies true_and and_true Bool.true_and Bool.and_true Bool.not_true Bool.not_false forall_const implies_true List.take_zero List.drop_zero List.take_succ_cons List.drop_succ_cons List.take_nil List.drop_nil List.length_cons List.length_nil List.nil_append List.append_nil List.cons_append Int.toNat_natCast decide_eq_true_eq decide_eq_false_iff_not cond_true cond_false and_self List.getElem?_cons_zero List.getElem?_cons_succ List.set_cons_zero List.set_cons_succ Option.some.injEq exists_eq_left' Nat.zero_add Nat.add_zero Nat.mul_one imp_self true_or or_true or_false false_or Bool.or_eq_true Bool.or_eq_false_iff Bool.and_eq_true Bool.and_eq_false_iff Bool.not_eq_true' Bool.not_eq_false'

theorem Up.skip {g : PH} {Γ : Ctx} {Φ : Ctx → Prop} (h : Up Γ Φ) : Up (g :: Γ) Φ := fun ha => by
  obtain ⟨Γ', he, hp⟩ := h (List.pairwise_cons.1 ha).2
  exact ⟨Γ', (Ent.sub (List.sublist_cons_self _ _)).trans he, hp⟩
theorem lenV_strB (u : List UInt8) : lenV true (strB u) = some (u.length : Int) := by simp [lenV, strB, ByteArray.size]
def good8 (l : List UInt8) : Prop := l.length ≤ 1000
/-- the map b is the set l of texts -/
def SetS (L : Mem) (b : Nat) (l : List (List UInt8)) : Prop := MapL L b strB Value.bool good8 (mset id l)
def StrM (g : PH) (b : Nat) (l : List (List UInt8)) : Prop := MapM g b strB Value.bool good8 (mset id l)
theorem StrM.l {g : PH} {Γ : Ctx} {b : Nat} {l : List (List UInt8)} (h : StrM g b l) (hg : g ∈ Γ) : SetS (lk Γ) b l := MapM.l h hg
theorem SetS.mono {L L' : Mem} {b : Nat} {l : List (List UInt8)} (h : SetS L b l) (hl : Mem.le L L') : SetS L' b l := MapL.mono h hl
theorem StrM.mono {g g' : PH} {b : Nat} {l : List (List UInt8)} (h : StrM g b l) (hg : Mem.le (lk [g]) (lk [g'])) : StrM g' b l := MapM.mono h hg
theorem SetS.nodup {L : Mem} {b : Nat} {l : List (List UInt8)} (h : SetS L b l) : l.Nodup := by
  have := MapL.nodup h
  rwa [mset_keys, List.map_id] at this
theorem SetS.good {L : Mem} {b : Nat} {l : List (List UInt8)} (h : SetS L b l) : ∀ x ∈ l, x.length ≤ 1000 := fun x hx => MapL.good h (x, true) (List.mem_map.2 ⟨x, hx, rfl⟩)
theorem mset_mem {l : List (List UInt8)} {p : List UInt8 × Bool} : p ∈ mset id l ↔ p.1 ∈ l ∧ p.2 = true := by
  obtain ⟨x, c⟩ := p
  simp only [mset, List.mem_map, id, Prod.mk.injEq]
  constructor
  · rintro ⟨y, h, rfl, rfl⟩; exact ⟨h, rfl⟩
  · rintro ⟨h, rfl⟩; exact ⟨x, h, rfl, rfl⟩
def addT (l : List (List UInt8)) (x : List UInt8) : List (List UInt8) := if x ∈ l then l else l ++ [x]
theorem addT_mem {l : List (List UInt8)} {x y : List UInt8} : y ∈ addT l x ↔ y ∈ l ∨ y = x := by
  unfold addT
  split
  · rename_i h
    exact ⟨.inl, fun q => q.elim id fun e => by rw [e]; exact h⟩
  · simp
theorem mset_dupT {l : List (List UInt8)} {x : List UInt8} (h : x ∈ l) : mput (mset id l) x true = mset id l := by
  rw [mput, mset_keys, List.map_id, if_pos h]
  unfold mset
  rw [List.map_map]
  apply List.map_congr_left
  intro y _
  simp only [Function.comp, id]
  split
  · rename_i e; rw [e]
  · rfl
theorem look_str {Γ : Ctx} {t kt : TypeId} {b : Nat} {l : List (List UInt8)} {x : List UInt8} (ht : Try.prog.underlying t = some (.map kt 4)) (hk : Try.prog.underlying kt = some .string) (h : SetS (lk Γ) b l) (hx : x.length ≤ 1000) : QR Try.prog (.look t false) [.map (some b), strB x] Γ (.bool (decide (x ∈ l))) := by
  have := qr_look (kt_str hk) (t := t) (et := 4) (z := .bool false) ht (zero_run (by kernel_rfl)) false h hx
  rw [mget_set, List.map_id] at this
  by_cases e : x ∈ l
  · rw [if_pos e] at this
    simpa [e] using this
  · rw [if_neg e] at this
    simpa [e] using this
theorem s_addT {Γr : Ctx} {d : Option Nat} {r : List SOper} {φ : Fr} {Γ : Ctx} {K : Fr → Ctx → Prop} {t kt : TypeId} {g : PH} {ix b : Nat} {l : List (List UInt8)} (ht : Try.prog.underlying t = some (.map kt 4)) (hkt : Try.prog.underlying kt = some .string) (hg : Γ[ix]? = some g) (hm : StrM g b l) {x : List UInt8} (hx : x.length ≤ 1000)
    (hk : ∀ g', StrM g' b (addT l x) → (∀ k, k ≠ b → g' k = g k) → vcOps Try.prog Γr r (put φ d (.v true undef)) (Γ.set ix g') K) : aC Try.prog Γr d r φ Γ K (.upd t) [.map (some b), strB x, .bool true] := by
  refine s_upd (kt_str hkt) (eV := Value.bool) ht hg hm true hx fun g' h ho => hk g' ?_ ho
  unfold addT
  split
  · rename_i h1
    rw [mset_dupT h1] at h
    exact h
  · rename_i h1
    have := mput_set id l x (by simpa using h1)
    simp only [id] at this
    rw [this] at h
    exact h
/-! a row of sets -/
structure RowS (g : PH) (bo : Nat) (T : TypeId) (maps : List (List (List UInt8))) (bs : List Nat) : Prop where
  len : bs.length = maps.length
  out : g bo = some (.cells (bs.map fun b => Value.map (some b)).toArray T (0, 0))
  nodup : bs.Nodup
  apart : bo ∉ bs
  map : ∀ (i b : Nat) l, bs[i]? = some b → maps[i]? = some l → StrM g b l
def GridS (g : PH) (bo : Nat) (T : TypeId) (maps : List (List (List UInt8))) : Prop := ∃ bs, RowS g bo T maps bs
theorem GridS.mono {g g' : PH} {bo : Nat} {T : TypeId} {maps : List (List (List UInt8))} (h : GridS g bo T maps) (hl : Mem.le (lk [g]) (lk [g'])) : GridS g' bo T maps := by
  obtain ⟨bs, h⟩ := h
  exact ⟨bs, h.len, lk_one.1 (hl _ _ (lk_one.2 h.out)), h.nodup, h.apart, fun i b l h1 h2 => (h.map i b l h1 h2).mono hl⟩
theorem nodup_inj {l : List Nat} (h : l.Nodup) {i j : Nat} (hi : i < l.length) (hj : j < l.length) (e : l[i] = l[j]) : i = j := by
  rcases Nat.lt_trichotomy i j with q | q | q
  · exact absurd e ((List.pairwise_iff_getElem.1 h) i j hi hj q)
  · exact q
  · exact absurd e.symm ((List.pairwise_iff_getElem.1 h) j i hj hi q)
/-- maps[i] -/
theorem GridS.at' {g : PH} {bo : Nat} {T : TypeId} {maps : List (List (List UInt8))} (h : GridS g bo T maps) {i : Nat} (hi : i < maps.length) :
    ∃ b, (∀ Γ : Ctx, g ∈ Γ → Cells Γ bo i [.map (some b)]) ∧ StrM g b maps[i] ∧ b ≠ bo ∧ ∀ g' l, StrM g' b l → (∀ k, k ≠ b → g' k = g k) → GridS g' bo T (maps.set i l) := by
  obtain ⟨bs, h⟩ := h
  have hib : i < bs.length := by rw [h.len]; exact hi
  refine ⟨bs[i], fun Γ hg => ⟨g, hg, _, T, _, h.out, fun j hj => ?_⟩, h.map i _ _ (List.getElem?_eq_getElem hib) (List.getElem?_eq_getElem hi), fun e => h.apart (e ▸ List.getElem_mem hib), fun g' l hl ho => ⟨bs, ?_, ?_, h.nodup, h.apart, fun j b l' h1 h2 => ?_⟩⟩
  · have : j = 0 := by simp at hj; exact hj
    subst this
    simp [hib]
  · rw [List.length_set]; exact h.len
  · rw [ho bo (fun e => h.apart (by rw [e]; exact List.getElem_mem hib))]; exact h.out
  · by_cases e : j = i
    · subst e
      rw [List.getElem?_eq_getElem hib] at h1
      rw [List.getElem?_set_self hi] at h2
      cases h1
      cases h2
      exact hl
    · rw [List.getElem?_set_ne (fun q => e q.symm)] at h2
      have hne : b ≠ bs[i] := fun q => by
        subst q
        obtain ⟨hj, h3⟩ := List.getElem?_eq_some_iff.1 h1
        exact e (nodup_inj h.nodup hj hib h3)
      have hm := h.map j b l' h1 h2
      obtain ⟨es, c, q1, q2⟩ := hm.at'
      exact ⟨MapL.nodup hm, MapL.good hm, es, c, by rw [ho b hne]; exact q1, q2⟩
/-- the sets that have been made so far -/
structure PartS (g : PH) (bo : Nat) (T : TypeId) (m : Nat) (bs : List Nat) : Prop where
  len : bs.length ≤ m
  out : g bo = some (.cells (bs.map (fun b => Value.map (some b)) ++ List.replicate (m - bs.length) (Value.map none)).toArray T (0, 0))
  nodup : bs.Nodup
  apart : bo ∉ bs
  map : ∀ b ∈ bs, StrM g b []
theorem PartS.made (bo : Nat) (T : TypeId) (m : Nat) : PartS (one bo (.cells (zerosL [Value.map none] m).toArray T)) bo T m [] := by
  refine ⟨by simp, ?_, by simp, by simp, by simp⟩
  rw [one_self]
  congr 3
  induction m with
  | zero => rfl
  | succ m ih => simp [zerosL, List.replicate_succ, ih]
theorem PartS.full {g : PH} {bo : Nat} {T : TypeId} {m : Nat} {bs : List Nat} (h : PartS g bo T m bs) (hl : bs.length = m) : GridS g bo T (List.replicate m []) := by
  refine ⟨bs, by simpa using hl, ?_, h.nodup, h.apart, fun i b l h1 h2 => ?_⟩
  · rw [h.out, hl]; simp
  · rw [List.getElem?_replicate] at h2
    split at h2
    · cases h2
      exact h.map b (List.mem_of_getElem? h1)
    · cases h2
/-- out[i] = texts{} -/
theorem s_storeS {P : Program} {Γr : Ctx} {r : List SOper} {φ : Fr} {Γ : Ctx} {K : Fr → Ctx → Prop} {g : PH} {ix bo i k : Nat} {T : TypeId} {m : Nat} {bs : List Nat} (hg : Γ[ix]? = some g) (h : PartS g bo T m bs) (hi : i = bs.length) (him : i < m)
    (hk : ∀ g', (∀ x2 G, StrM x2 k [] → Disj x2 g' → Mem.le (lk [x2, g']) (lk [G]) → PartS G bo T m (bs ++ [k])) → vcOps P Γr r φ (Γ.set ix g') K) : storeP P Γr r φ Γ K 1 bo i (.map (some k)) := by
  subst hi
  refine ⟨ix, g, _, T, hg, h.out, by simp; omega, ?_⟩
  refine hk _ fun x2 G h1 hd hG => ?_
  obtain ⟨es, c, q1, q2⟩ := h1.at'
  have up1 : ∀ j o, x2 j = some o → G j = some o := fun j o q => lk_one.1 (hG _ _ ⟨x2, by simp, q⟩)
  have hk1 : ∀ j, upd g bo (.cells (setC ((bs.map (fun b => Value.map (some b)) ++ List.replicate (m - bs.length) (Value.map none)).toArray).toList bs.length 1 (Value.map (some k))).toArray T) j ≠ none → j ≠ k := fun j hj q => by
    subst q
    rcases hd j with q | q
    · rw [q1] at q; cases q
    · exact hj q
  have hbk : bo ≠ k := hk1 bo (by rw [upd_self]; simp)
  have up2 : ∀ j o, upd g bo (.cells (setC ((bs.map (fun b => Value.map (some b)) ++ List.replicate (m - bs.length) (Value.map none)).toArray).toList bs.length 1 (Value.map (some k))).toArray T) j = some o → G j = some o := fun j o q => lk_one.1 (hG _ _ ⟨_, by simp, q⟩)
  have hbs : ∀ b ∈ bs, b ≠ bo := fun b hb q => h.apart (q ▸ hb)
  have hmap : ∀ b ∈ bs, ∃ es c, g b = some (.map es c) := fun b hb => let ⟨es, c, q1, _⟩ := (h.map b hb).at'; ⟨es, c, q1⟩
  refine ⟨by simp; omega, ?_, ?_, ?_, fun b hb => ?_⟩
  · rw [up2 bo _ (upd_self _ _ _)]
    congr 3
    obtain ⟨d, hd⟩ : ∃ d, m - bs.length = d + 1 := ⟨m - bs.length - 1, by omega⟩
    have hd2 : m - (bs ++ [k]).length = d := by simp; omega
    rw [hd, hd2]
    have hlm : bs.length = (bs.map (fun b => Value.map (some b))).length := by simp
    simp only [List.toList_toArray, setC]
    rw [hlm, List.take_left, List.replicate_succ, List.map_append]
    simp only [cellsV, List.map_cons, List.map_nil]
    rw [List.drop_append, List.drop_eq_nil_of_le (by simp)]
    simp
  · rw [List.nodup_append]
    refine ⟨h.nodup, by simp, ?_⟩
    rintro x hx y hy rfl
    simp at hy
    subst hy
    obtain ⟨es', c', q⟩ := hmap x hx
    exact hk1 x (by rw [upd_other (hbs x hx), q]; simp) rfl
  · simp only [List.mem_append, List.mem_singleton, not_or]
    exact ⟨h.apart, hbk⟩
  · rcases List.mem_append.1 hb with hb | hb
    · have hm := h.map b hb
      obtain ⟨es', c', q3, q4⟩ := hm.at'
      exact ⟨MapL.nodup hm, MapL.good hm, es', c', up2 b _ (by rw [upd_other (hbs b hb)]; exact q3), q4⟩
    · simp at hb
      subst hb
      exact ⟨MapL.nodup h1, MapL.good h1, es, c, up1 _ _ q1, q2⟩
end Go.Proofs.Ytniobbepliknmaa.V
