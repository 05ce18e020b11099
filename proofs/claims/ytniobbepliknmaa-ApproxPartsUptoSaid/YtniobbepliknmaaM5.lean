/- Texts put together, in the order in which they build; each says what it proves; no condition. -/
import Derived.Test.YtniobbepliknmaaM2
import Derived.Test.YtniobbepliknmaaProg
import Derived.Test.YtniobbepliknmaaM4
import Derived.Test.YtniobbepliknmaaM3
/- The text of parlance/approx.kind as a statement (slots: 0 g, 1 l, 2 g, 3 l, 5 right, 6 left, 7 _, 8 r, 9 i, 10 s); no condition. -/
namespace Go.Proofs.Ytniobbepliknmaa.V
open Go
def S124_1 : Stmt :=
  Stmt.block 3
  (Stmt.seq
    (Stmt.region
      [SOper.mk (some 28) none (SOp.mv (Operand.tmp 26)),
        SOper.mk (some 29) none (SOp.idx 2 (Operand.tmp 24) (Operand.tmp 26)),
        SOper.mk (some 30) none (SOp.load true 2 (Operand.tmp 29)),
        SOper.mk (some 10) none (SOp.alloc true 39 (Value.agg (Array.mk [Value.bool false, Value.int IntKind.i64 0]))),
        SOper.mk (some 9) none (SOp.mv (Operand.tmp 28)),
        SOper.mk none none (SOp.store 2 (Operand.tmp 10) (Operand.tmp 30))]
      [1, 5, 6, 8, 9, 10, 12, 13, 14, 24, 25, 26])
    (Stmt.seq
      (Stmt.seq
        (Stmt.region
          [SOper.mk (some 31) none (SOp.fld 0 (Operand.tmp 10)),
            SOper.mk (some 32) none (SOp.load false 1 (Operand.tmp 31)),
            SOper.mk (some 33) none (SOp.mv (Operand.tmp 32)),
            SOper.mk (some 34) (some (33, false)) (SOp.mv (Operand.tmp 1)),
            SOper.mk (some 35) (some (33, false)) (SOp.fld 1 (Operand.tmp 10)),
            SOper.mk (some 36) (some (33, false)) (SOp.load false 1 (Operand.tmp 35)),
            SOper.mk (some 37) (some (33, false)) (SOp.call (Operand.func 32) [Operand.tmp 34, Operand.tmp 36]),
            SOper.mk (some 38) (some (33, false)) (SOp.un UnOp.not (Operand.tmp 37)),
            SOper.mk (some 39) none (SOp.pick (Operand.tmp 33) (Operand.const (Value.bool true)) (Operand.tmp 38))]
          [1, 5, 6, 8, 9, 12, 13, 14, 24, 25, 26, 39])
        (Stmt.cond (Operand.tmp 39) (Stmt.exit 3) Stmt.skip))
      (Stmt.seq
        (Stmt.region
          [SOper.mk (some 40) none (SOp.mv (Operand.tmp 5)), SOper.mk (some 41) none (SOp.mv (Operand.tmp 40)),
            SOper.mk (some 42) (some (41, true)) (SOp.mv (Operand.tmp 9)),
            SOper.mk (some 43) (some (41, true)) (SOp.fld 1 (Operand.tmp 8)),
            SOper.mk (some 44) (some (41, true)) (SOp.load false 1 (Operand.tmp 43)),
            SOper.mk (some 45) (some (41, true)) (SOp.len false (Operand.tmp 44)),
            SOper.mk (some 46) (some (41, true))
              (SOp.ibin BinOp.sub (Operand.tmp 45) (Operand.const (Value.int IntKind.i64 1))),
            SOper.mk (some 47) (some (41, true)) (SOp.ibin BinOp.eql (Operand.tmp 42) (Operand.tmp 46)),
            SOper.mk (some 48) none (SOp.pick (Operand.tmp 41) (Operand.tmp 47) (Operand.const (Value.bool false))),
            SOper.mk (some 5) none (SOp.mv (Operand.tmp 48))]
          [1, 5, 6, 8, 9, 12, 13, 14, 24, 25, 26])
        (Stmt.region
          [SOper.mk (some 49) none (SOp.mv (Operand.tmp 6)), SOper.mk (some 50) none (SOp.mv (Operand.tmp 49)),
            SOper.mk (some 51) (some (50, true)) (SOp.mv (Operand.tmp 9)),
            SOper.mk (some 52) (some (50, true))
              (SOp.ibin BinOp.eql (Operand.tmp 51) (Operand.const (Value.int IntKind.i64 0))),
            SOper.mk (some 53) none (SOp.pick (Operand.tmp 50) (Operand.tmp 52) (Operand.const (Value.bool false))),
            SOper.mk (some 6) none (SOp.mv (Operand.tmp 53))]
          [1, 5, 6, 8, 12, 13, 14, 24, 25, 26]))))
def S124_2 : Stmt :=
  Stmt.region
  [SOper.mk (some 54) none (SOp.ibin BinOp.add (Operand.tmp 26) (Operand.const (Value.int IntKind.i64 1))),
    SOper.mk (some 26) none (SOp.mv (Operand.tmp 54))]
  [1, 5, 6, 8, 12, 13, 14, 24, 25, 26]
def S124_3 : Stmt :=
  Stmt.seq
  (Stmt.region [SOper.mk (some 27) none (SOp.ibin BinOp.lss (Operand.tmp 26) (Operand.tmp 25))]
    [1, 5, 6, 8, 12, 13, 14, 24, 25, 26, 27])
  (Stmt.seq (Stmt.cond (Operand.tmp 27) Stmt.skip (Stmt.exit 2))
    (Stmt.join S124_1 S124_2 [5, 6] [1, 8, 12, 13, 14, 24, 25, 26]))
def S124_4 : Stmt :=
  Stmt.block 1
  (Stmt.seq
    (Stmt.region
      [SOper.mk (some 16) none (SOp.idx 2 (Operand.tmp 12) (Operand.tmp 14)),
        SOper.mk (some 17) none (SOp.load true 2 (Operand.tmp 16)),
        SOper.mk (some 8) none
          (SOp.alloc true 37 (Value.agg (Array.mk [Value.int IntKind.i64 0, Value.slice none 0 0]))),
        SOper.mk none none (SOp.store 2 (Operand.tmp 8) (Operand.tmp 17))]
      [1, 5, 6, 8, 12, 13, 14])
    (Stmt.seq
      (Stmt.seq
        (Stmt.region
          [SOper.mk (some 18) none (SOp.mv (Operand.tmp 1)), SOper.mk (some 19) none (SOp.fld 0 (Operand.tmp 8)),
            SOper.mk (some 20) none (SOp.load false 1 (Operand.tmp 19)),
            SOper.mk (some 21) none (SOp.call (Operand.func 32) [Operand.tmp 18, Operand.tmp 20]),
            SOper.mk (some 22) none (SOp.un UnOp.not (Operand.tmp 21))]
          [1, 5, 6, 8, 12, 13, 14, 22])
        (Stmt.cond (Operand.tmp 22) (Stmt.exit 1) Stmt.skip))
      (Stmt.seq
        (Stmt.region
          [SOper.mk (some 23) none (SOp.fld 1 (Operand.tmp 8)),
            SOper.mk (some 24) none (SOp.load false 1 (Operand.tmp 23)),
            SOper.mk (some 25) none (SOp.len false (Operand.tmp 24)),
            SOper.mk (some 26) none (SOp.mv (Operand.const (Value.int IntKind.i64 0)))]
          [1, 5, 6, 8, 12, 13, 14, 24, 25, 26])
        (Stmt.block 2 (Stmt.loop S124_3 [5, 6, 26] [1, 8, 12, 13, 14, 24, 25])))))
def S124_5 : Stmt :=
  Stmt.region
  [SOper.mk (some 55) none (SOp.ibin BinOp.add (Operand.tmp 14) (Operand.const (Value.int IntKind.i64 1))),
    SOper.mk (some 14) none (SOp.mv (Operand.tmp 55))]
  [1, 5, 6, 12, 13, 14]
def S124_6 : Stmt :=
  Stmt.seq
  (Stmt.region [SOper.mk (some 15) none (SOp.ibin BinOp.lss (Operand.tmp 14) (Operand.tmp 13))]
    [1, 5, 6, 12, 13, 14, 15])
  (Stmt.seq (Stmt.cond (Operand.tmp 15) Stmt.skip (Stmt.exit 0)) (Stmt.join S124_4 S124_5 [5, 6] [1, 12, 13, 14]))
def S124_0 : Stmt :=
  Stmt.seq
  (Stmt.region
    [SOper.mk (some 2) none (SOp.box true 57 (Operand.tmp 0)),
      SOper.mk (some 4) none (SOp.mv (Operand.const (Value.int IntKind.i64 0)))]
    [1, 2])
  (Stmt.seq
    (Stmt.region
      [SOper.mk (some 5) none (SOp.mv (Operand.const (Value.bool true))),
        SOper.mk (some 6) none (SOp.mv (Operand.const (Value.bool true)))]
      [1, 2, 5, 6])
    (Stmt.seq
      (Stmt.seq
        (Stmt.region
          [SOper.mk (some 11) none (SOp.fld 3 (Operand.tmp 2)),
            SOper.mk (some 12) none (SOp.load false 1 (Operand.tmp 11)),
            SOper.mk (some 13) none (SOp.len false (Operand.tmp 12)),
            SOper.mk (some 14) none (SOp.mv (Operand.const (Value.int IntKind.i64 0)))]
          [1, 5, 6, 12, 13, 14])
        (Stmt.block 0 (Stmt.loop S124_6 [5, 6, 14] [1, 12, 13])))
      (Stmt.seq
        (Stmt.block 4
          (Stmt.seq
            (Stmt.region
              [SOper.mk (some 57) none (SOp.mv (Operand.tmp 5)), SOper.mk (some 56) none (SOp.mv (Operand.tmp 57))]
              [6, 56])
            (Stmt.cond (Operand.tmp 56)
              (Stmt.seq (Stmt.region [SOper.mk (some 4) none (SOp.mv (Operand.const (Value.int IntKind.i64 0)))] [4])
                Stmt.ret)
              (Stmt.seq
                (Stmt.region
                  [SOper.mk (some 59) none (SOp.mv (Operand.tmp 6)), SOper.mk (some 58) none (SOp.mv (Operand.tmp 59))]
                  [58])
                (Stmt.cond (Operand.tmp 58)
                  (Stmt.seq
                    (Stmt.region [SOper.mk (some 4) none (SOp.mv (Operand.const (Value.int IntKind.i64 1)))] [4])
                    Stmt.ret)
                  Stmt.skip)))))
        (Stmt.seq (Stmt.region [SOper.mk (some 4) none (SOp.mv (Operand.const (Value.int IntKind.i64 2)))] [4])
          Stmt.ret))))
def S124 : FnS := ⟨60, [(4, none)], S124_0⟩
theorem tr124 : trFn Try.prog 124 [2, 8, 10] [[1, 2], [1, 2, 5, 6], [1, 5, 6, 12, 13, 14], [5, 6, 14], [1, 12, 13], [1, 5, 6, 12, 13, 14, 15], [5, 6], [1, 12, 13, 14], [1, 5, 6, 8, 12, 13, 14], [1, 5, 6, 8, 12, 13, 14, 22], [1, 5, 6, 8, 12, 13, 14, 24, 25, 26], [5, 6, 26], [1, 8, 12, 13, 14, 24, 25], [1, 5, 6, 8, 12, 13, 14, 24, 25, 26, 27], [5, 6], [1, 8, 12, 13, 14, 24, 25, 26], [1, 5, 6, 8, 9, 10, 12, 13, 14, 24, 25, 26], [1, 5, 6, 8, 9, 12, 13, 14, 24, 25, 26, 39], [1, 5, 6, 8, 9, 12, 13, 14, 24, 25, 26], [1, 5, 6, 8, 12, 13, 14, 24, 25, 26], [1, 5, 6, 8, 12, 13, 14, 24, 25, 26], [1, 5, 6, 12, 13, 14], [6, 56], [4], [58], [4], [4]] = some S124 := by kernel_rfl
end Go.Proofs.Ytniobbepliknmaa.V
/- The text of parlance/parlref5.Groups$1 as a statement (slots: 0 a, 2 a, 4 m, 5 _, 6 r, 7 _, 8 s); no condition. -/
namespace Go.Proofs.Ytniobbepliknmaa.V
open Go
def S125_1 : Stmt :=
  Stmt.block 5
  (Stmt.seq
    (Stmt.region
      [SOper.mk (some 28) none (SOp.idx 2 (Operand.tmp 24) (Operand.tmp 26)),
        SOper.mk (some 29) none (SOp.load true 2 (Operand.tmp 28)),
        SOper.mk (some 8) none (SOp.alloc true 39 (Value.agg (Array.mk [Value.bool false, Value.int IntKind.i64 0]))),
        SOper.mk none none (SOp.store 2 (Operand.tmp 8) (Operand.tmp 29))]
      [1, 4, 6, 8, 13, 14, 17, 18, 19, 24, 25, 26])
    (Stmt.seq
      (Stmt.region
        [SOper.mk (some 30) none (SOp.mv (Operand.tmp 4)), SOper.mk (some 31) none (SOp.fld 0 (Operand.tmp 6)),
          SOper.mk (some 32) none (SOp.load false 1 (Operand.tmp 31)),
          SOper.mk (some 33) none (SOp.q (Qk.look 164 false) [Operand.tmp 30, Operand.tmp 32]),
          SOper.mk (some 34) none (SOp.mv (Operand.tmp 33)),
          SOper.mk (some 35) (some (34, true)) (SOp.fld 0 (Operand.tmp 8)),
          SOper.mk (some 36) (some (34, true)) (SOp.load false 1 (Operand.tmp 35)),
          SOper.mk (some 37) (some (34, true)) (SOp.un UnOp.not (Operand.tmp 36)),
          SOper.mk (some 38) none (SOp.pick (Operand.tmp 34) (Operand.tmp 37) (Operand.const (Value.bool false)))]
        [1, 4, 6, 8, 13, 14, 17, 18, 19, 24, 25, 26, 38])
      (Stmt.cond (Operand.tmp 38)
        (Stmt.region
          [SOper.mk (some 39) none (SOp.mv (Operand.tmp 4)), SOper.mk (some 40) none (SOp.fld 1 (Operand.tmp 8)),
            SOper.mk (some 41) none (SOp.load false 1 (Operand.tmp 40)),
            SOper.mk none none (SOp.a (Qk.upd 164) [Operand.tmp 39, Operand.tmp 41, Operand.const (Value.bool true)])]
          [1, 4, 6, 13, 14, 17, 18, 19, 24, 25, 26])
        Stmt.skip)))
def S125_2 : Stmt :=
  Stmt.region
  [SOper.mk (some 42) none (SOp.ibin BinOp.add (Operand.tmp 26) (Operand.const (Value.int IntKind.i64 1))),
    SOper.mk (some 26) none (SOp.mv (Operand.tmp 42))]
  [1, 4, 6, 13, 14, 17, 18, 19, 24, 25, 26]
def S125_3 : Stmt :=
  Stmt.seq
  (Stmt.region [SOper.mk (some 27) none (SOp.ibin BinOp.lss (Operand.tmp 26) (Operand.tmp 25))]
    [1, 4, 6, 13, 14, 17, 18, 19, 24, 25, 26, 27])
  (Stmt.seq (Stmt.cond (Operand.tmp 27) Stmt.skip (Stmt.exit 4))
    (Stmt.join S125_1 S125_2 [] [1, 4, 6, 13, 14, 17, 18, 19, 24, 25, 26]))
def S125_4 : Stmt :=
  Stmt.seq
  (Stmt.region [SOper.mk (some 20) none (SOp.ibin BinOp.lss (Operand.tmp 19) (Operand.tmp 18))]
    [1, 4, 13, 14, 17, 18, 19, 20])
  (Stmt.seq (Stmt.cond (Operand.tmp 20) Stmt.skip (Stmt.exit 2))
    (Stmt.seq
      (Stmt.block 3
        (Stmt.seq
          (Stmt.region
            [SOper.mk (some 21) none (SOp.idx 2 (Operand.tmp 17) (Operand.tmp 19)),
              SOper.mk (some 22) none (SOp.load true 2 (Operand.tmp 21)),
              SOper.mk (some 6) none
                (SOp.alloc true 37 (Value.agg (Array.mk [Value.int IntKind.i64 0, Value.slice none 0 0]))),
              SOper.mk none none (SOp.store 2 (Operand.tmp 6) (Operand.tmp 22))]
            [1, 4, 6, 13, 14, 17, 18, 19])
          (Stmt.seq
            (Stmt.region
              [SOper.mk (some 23) none (SOp.fld 1 (Operand.tmp 6)),
                SOper.mk (some 24) none (SOp.load false 1 (Operand.tmp 23)),
                SOper.mk (some 25) none (SOp.len false (Operand.tmp 24)),
                SOper.mk (some 26) none (SOp.mv (Operand.const (Value.int IntKind.i64 0)))]
              [1, 4, 6, 13, 14, 17, 18, 19, 24, 25, 26])
            (Stmt.block 4 (Stmt.loop S125_3 [26] [1, 4, 6, 13, 14, 17, 18, 19, 24, 25])))))
      (Stmt.region
        [SOper.mk (some 43) none (SOp.ibin BinOp.add (Operand.tmp 19) (Operand.const (Value.int IntKind.i64 1))),
          SOper.mk (some 19) none (SOp.mv (Operand.tmp 43))]
        [1, 4, 13, 14, 17, 18, 19])))
def S125_5 : Stmt :=
  Stmt.seq
  (Stmt.region [SOper.mk (some 15) none (SOp.ibin BinOp.lss (Operand.tmp 14) (Operand.tmp 13))] [1, 4, 13, 14, 15])
  (Stmt.seq (Stmt.cond (Operand.tmp 15) Stmt.skip (Stmt.exit 0))
    (Stmt.seq
      (Stmt.block 1
        (Stmt.seq
          (Stmt.region
            [SOper.mk (some 16) none (SOp.fld 3 (Operand.tmp 1)),
              SOper.mk (some 17) none (SOp.load false 1 (Operand.tmp 16)),
              SOper.mk (some 18) none (SOp.len false (Operand.tmp 17)),
              SOper.mk (some 19) none (SOp.mv (Operand.const (Value.int IntKind.i64 0)))]
            [1, 4, 13, 14, 17, 18, 19])
          (Stmt.block 2 (Stmt.loop S125_4 [19] [1, 4, 13, 14, 17, 18]))))
      (Stmt.region
        [SOper.mk (some 44) none (SOp.ibin BinOp.add (Operand.tmp 14) (Operand.const (Value.int IntKind.i64 1))),
          SOper.mk (some 14) none (SOp.mv (Operand.tmp 44))]
        [1, 4, 13, 14])))
def S125_0 : Stmt :=
  Stmt.seq (Stmt.region [SOper.mk (some 3) none (SOp.mv (Operand.const (Value.map none)))] [0, 1])
  (Stmt.seq
    (Stmt.region
      [SOper.mk (some 9) none (SOp.n (Qk.mkmap 164) []), SOper.mk (some 10) none (SOp.mv (Operand.tmp 0)),
        SOper.mk none none (SOp.a (Qk.upd 164) [Operand.tmp 9, Operand.tmp 10, Operand.const (Value.bool true)]),
        SOper.mk (some 11) none (SOp.mv (Operand.tmp 9)), SOper.mk (some 4) none (SOp.mv (Operand.tmp 11))]
      [1, 4])
    (Stmt.seq
      (Stmt.seq
        (Stmt.region
          [SOper.mk (some 12) none (SOp.fld 1 (Operand.tmp 1)),
            SOper.mk (some 13) none (SOp.load false 1 (Operand.tmp 12)),
            SOper.mk (some 14) none (SOp.mv (Operand.const (Value.int IntKind.i64 0)))]
          [1, 4, 13, 14])
        (Stmt.block 0 (Stmt.loop S125_5 [14] [1, 4, 13])))
      (Stmt.seq
        (Stmt.region
          [SOper.mk (some 45) none (SOp.mv (Operand.tmp 4)), SOper.mk (some 3) none (SOp.mv (Operand.tmp 45))] [3])
        Stmt.ret)))
def S125 : FnS := ⟨46, [(3, none)], S125_0⟩
theorem tr125 : trFn Try.prog 125 [6, 8] [[0, 1], [1, 4], [1, 4, 13, 14], [14], [1, 4, 13], [1, 4, 13, 14, 15], [1, 4, 13, 14, 17, 18, 19], [19], [1, 4, 13, 14, 17, 18], [1, 4, 13, 14, 17, 18, 19, 20], [1, 4, 6, 13, 14, 17, 18, 19], [1, 4, 6, 13, 14, 17, 18, 19, 24, 25, 26], [26], [1, 4, 6, 13, 14, 17, 18, 19, 24, 25], [1, 4, 6, 13, 14, 17, 18, 19, 24, 25, 26, 27], [], [1, 4, 6, 13, 14, 17, 18, 19, 24, 25, 26], [1, 4, 6, 8, 13, 14, 17, 18, 19, 24, 25, 26], [1, 4, 6, 8, 13, 14, 17, 18, 19, 24, 25, 26, 38], [1, 4, 6, 13, 14, 17, 18, 19, 24, 25, 26], [1, 4, 6, 13, 14, 17, 18, 19, 24, 25, 26], [1, 4, 13, 14, 17, 18, 19], [1, 4, 13, 14], [3]] = some S125 := by kernel_rfl
end Go.Proofs.Ytniobbepliknmaa.V
/- Components of a grammar: approx.kind, what lies under a nonterminal; no condition. -/
namespace Go.Proofs.Ytniobbepliknmaa.V
open Go
set_option linter.unusedVariables false
set_option linter.unusedSimpArgs false
attribute [local go_sem] e_seq e_region e_quiet e_join e_loop e_cond e_block e_exit e_ret e_skip e_fin e_kseq e_snrm e_sret e_sex e_bnrm e_bret e_bex e_rnrm e_rret e_res e_condC e_nil e_g e_mv g_mv e_pick g_pick pickC_eq e_ibin g_ibin ibinC_eq e_sbin g_sbin e_beq g_beq beqC_eq e_nilq g_nilq nilqC_sl nilqC_pt nilqC_mp e_un g_un unC_not unC_neg e_conv g_conv convC_eq e_fld g_fld fldC_ref fldC_ptr e_nilCheck g_nilCheck nilCheckC_ref nilCheckC_ptr nilCheckC_fun e_field g_field fieldC_eq e_len g_len lenC_sl lenC_str e_extract g_extract extractC_eq e_mkFunc e_build g_build e_idiv g_idiv idivC_eq e_ishift g_ishift ishiftC_eq e_idx g_idx e_idxA g_idxA e_load g_load loadC_ref loadC_ptr loadB_eq e_slc g_slc e_box boxC_loc boxC_esc e_alloc allocC_loc allocC_esc e_buildS e_store storeC_ref storeC_ptr storeB_eq e_append e_appz e_mk mkC_eq e_call callC_eq e_fn g_fn fnC_eq fnV_min' fnV_max' fnV_rune' e_q g_q e_a e_n g_call g_box g_alloc g_buildS g_store g_append g_mk g_a g_n g_dead e_dead e_callK e_drawn e_tree e_finJ e_tk e_tfin e_tno e_nbt_q e_nbt_qn e_nbt_a e_nbt_an e_nbt_fin e_early_nil e_early_t e_early_f e_nob_nil e_nob_none e_nob_some isBox_dead isBox_v isBox_ref e_dnil e_dk e_ek e_finB vcOps_vc1 e_dcons e_tq e_ekt e_tearly e_talt e_dearly look_nil look_c proj_nil proj_c looks_nil looks_c zip_nil zip_c val_tmp val_const val_func slv_v slv_box slv_ref slot_tmp slot_const slot_func slotL_v slotL_box slotL_ref put_some put_none updBox_c boxSet_box gd_eq slotVals_nil slotVals_c slotVals_b boxV_box boxOn_box slotsOn_nil slotsOn_c slotsOn_b resV_one resV_two vals_nil vals_c allOn_nil allOn_c partOn_nil partOn_c partVals_nil partVals_c fits_nil fits_c fillL_nil fillL_c mkv_one mkv_agg cellsV_agg cellsV_int cellsV_bool cellsV_slice cellsV_string cellsV_pointer cellsV_func cellsV_nilf cellsV_map one'_nil one'_c oc_int oc_bool oc_slice oc_string oc_pointer oc_func oc_nilf oc_map setC_eq iv_add iv_sub iv_mul iv_eql iv_neq iv_lss iv_leq iv_gtr iv_geq iok_add iok_sub iok_mul iok_eql iok_neq iok_lss iok_leq iok_gtr iok_geq pickV_bool args0_nil args0_c bnd_none bnd_some imp_bt imp_bf imp_ebt imp_ebf imp_eb1 imp_np imp_pp beq_tt beq_tf beq_ft beq_ff cond_or cond_and e_round e_meet Int.le_refl Int.toNat_zero decide_true decide_false Bool.or_false Bool.false_or Bool.true_or Bool.or_true Bool.and_false Bool.false_and Bool.bne_false Bool.bne_true beq_iff_eq Int.cast_ofNat_Int not_false_eq_true not_true_eq_false false_and and_false false_implies true_implies true_and and_true Bool.true_and Bool.and_true Bool.not_true Bool.not_false forall_const implies_true List.take_zero List.drop_zero List.take_succ_cons List.drop_succ_cons List.take_nil List.drop_nil List.length_cons List.length_nil List.nil_append List.append_nil List.cons_append Int.toNat_natCast decide_eq_true_eq decide_eq_false_iff_not cond_true cond_false and_self List.getElem?_cons_zero List.getElem?_cons_succ List.set_cons_zero List.set_cons_succ Option.some.injEq exists_eq_left' Nat.zero_add Nat.add_zero Nat.mul_one imp_self true_or or_true or_false false_or Bool.or_eq_true Bool.or_eq_false_iff Bool.and_eq_true Bool.and_eq_false_iff Bool.not_eq_true' Bool.not_eq_false'

theorem co_kind {Γr : Ctx} {g : Gr} {A : Option Addr} {c : Nat} (hx : SlOk (lk Γr) A c g.rs) (V : VG g) {l : List Int} {B : Option Addr} {d : Nat} (hl : SlOk (lk Γr) B d l) :
    Ret Try.prog 124 [.agg #[.int .i64 g.ts, .int .i64 g.ns, .int .i64 g.st, .slice A g.rs.length c], .slice B l.length d] Γr [] (fun v Γ => Γ = [] ∧ v = .int .i64 (kindF g l)) := by
  generalize hR : (fun (v : Value) (Γ : Ctx) => Γ = [] ∧ v = _) = R
  refine ret_of_vc tr124 (Nat.le_of_ble_eq_true rfl) ?_
  have hvl := V.len
  simp -implicitDefEqProofs only [S124, S124_0, go_sem, Nat.reduceBEq, Nat.reduceAdd, Nat.reduceSub, Nat.reduceMul, Nat.reduceLeDiff, reduceCtorEq, ↓reduceIte, Int.reduceLT, Int.reduceLE, Int.reduceEq, Int.reduceNe]
  refine s_loop (fun f vs Γ => Γ = [] ∧ ∃ (k : Nat) (p q : Bool), vs = [.v true (.bool p), .v true (.bool q), .v true (.int .i64 k)] ∧ k + f = g.rs.length ∧ (p = true ↔ okG qLast l g.rs k) ∧ (q = true ↔ okG qFst l g.rs k)) g.rs.length
    (Up.here ⟨rfl, 0, true, true, rfl, by omega, by simp [okG_zero], by simp [okG_zero]⟩) ?_
  rintro f vs Γ ⟨rfl, k, p, q, rfl, hkf, hp, hq⟩
  simp -implicitDefEqProofs only [S124_6, go_sem, Nat.reduceBEq, Nat.reduceAdd, Nat.reduceSub, Nat.reduceMul, Nat.reduceLeDiff, reduceCtorEq, ↓reduceIte, Int.reduceLT, Int.reduceLE, Int.reduceEq, Int.reduceNe]
  refine ⟨fun hlt => ?_, fun hge => ?_⟩
  · have hk : k < g.rs.length := by omega
    have hmem : g.rs[k] ∈ g.rs := List.getElem_mem hk
    have hr4 := V.right _ hmem
    have hsP := okG_succ (q := qLast) (l := l) hk
    have hsQ := okG_succ (q := qFst) (l := l) hk
    obtain ⟨b1, o1, hA2, A3, c3, hr3, hc2⟩ := hx.ru hk
    generalize g.rs[k] = r at *
    refine s_split ?_
    simp -implicitDefEqProofs only [S124_4, S124_5, go_sem, Nat.reduceBEq, Nat.reduceAdd, Nat.reduceSub, Nat.reduceMul, Nat.reduceLeDiff, reduceCtorEq, ↓reduceIte, Int.reduceLT, Int.reduceLE, Int.reduceEq, Int.reduceNe]
    refine s_idx hA2 (by omega) (by omega) ?_
    simp -implicitDefEqProofs only [go_sem, Nat.reduceBEq, Nat.reduceAdd, Nat.reduceSub, Nat.reduceMul, Nat.reduceLeDiff, reduceCtorEq, ↓reduceIte, Int.reduceLT, Int.reduceLE, Int.reduceEq, Int.reduceNe]
    refine s_ld0 (hc2 _ (lk_r _ _)) (by simp) (by simp) ?_
    simp -implicitDefEqProofs only [go_sem, Nat.reduceBEq, Nat.reduceAdd, Nat.reduceSub, Nat.reduceMul, Nat.reduceLeDiff, reduceCtorEq, ↓reduceIte, Int.reduceLT, Int.reduceLE, Int.reduceEq, Int.reduceNe]
    intro b2
    refine CallVC.read (slices_contains (hl.mono (lk_r _ _)) r.l) ?_
    rintro v Γ' ⟨rfl, rfl⟩
    simp -implicitDefEqProofs only [go_sem, Nat.reduceBEq, Nat.reduceAdd, Nat.reduceSub, Nat.reduceMul, Nat.reduceLeDiff, reduceCtorEq, ↓reduceIte, Int.reduceLT, Int.reduceLE, Int.reduceEq, Int.reduceNe]
    refine ⟨fun hno => ?_, fun hin => ?_⟩
    · simp (disch := omega) only [wrap_id]
      refine Up.here ⟨f - 1, by omega, Up.here ⟨rfl, k + 1, p, q, rfl, by omega, ?_, ?_⟩⟩
      · rw [hp, hsP]; exact ⟨fun h => ⟨h, fun q => absurd q hno⟩, fun h => h.1⟩
      · rw [hq, hsQ]; exact ⟨fun h => ⟨h, fun q => absurd q hno⟩, fun h => h.1⟩
    refine s_loop (fun f vs Γ => Γ = [] ∧ ∃ (j : Nat) (p' q' : Bool), vs = [.v true (.bool p'), .v true (.bool q'), .v true (.int .i64 j)] ∧ j + f = r.r.length ∧ (p' = true ↔ okG qLast l g.rs k ∧ okR qLast l r.r j) ∧ (q' = true ↔ okG qFst l g.rs k ∧ okR qFst l r.r j)) r.r.length
      (Up.here ⟨rfl, 0, p, q, rfl, by omega, by simp [hp, okR_zero], by simp [hq, okR_zero]⟩) ?_
    rintro f2 vs Γ ⟨rfl, j, p', q', rfl, hjf, hp', hq'⟩
    simp -implicitDefEqProofs only [S124_3, go_sem, Nat.reduceBEq, Nat.reduceAdd, Nat.reduceSub, Nat.reduceMul, Nat.reduceLeDiff, reduceCtorEq, ↓reduceIte, Int.reduceLT, Int.reduceLE, Int.reduceEq, Int.reduceNe]
    refine ⟨fun hlt => ?_, fun hge => ?_⟩
    · have hj : j < r.r.length := by omega
      have hsPj := okR_succ (q := qLast) (l := l) hj
      have hsQj := okR_succ (q := qFst) (l := l) hj
      obtain ⟨b3, o3, hA4, hc4⟩ := hr3.sy hj
      generalize r.r[j] = s at *
      refine s_split ?_
      simp -implicitDefEqProofs only [S124_1, S124_2, go_sem, Nat.reduceBEq, Nat.reduceAdd, Nat.reduceSub, Nat.reduceMul, Nat.reduceLeDiff, reduceCtorEq, ↓reduceIte, Int.reduceLT, Int.reduceLE, Int.reduceEq, Int.reduceNe]
      refine s_idx hA4 (by omega) (by omega) ?_
      simp -implicitDefEqProofs only [go_sem, Nat.reduceBEq, Nat.reduceAdd, Nat.reduceSub, Nat.reduceMul, Nat.reduceLeDiff, reduceCtorEq, ↓reduceIte, Int.reduceLT, Int.reduceLE, Int.reduceEq, Int.reduceNe]
      refine s_ld0 (hc4 _ (lk_r _ _)) (by simp) (by simp) ?_
      simp -implicitDefEqProofs only [go_sem, Nat.reduceBEq, Nat.reduceAdd, Nat.reduceSub, Nat.reduceMul, Nat.reduceLeDiff, reduceCtorEq, ↓reduceIte, Int.reduceLT, Int.reduceLE, Int.reduceEq, Int.reduceNe]
      intro b4
      cases hst : s.t with
      | true =>
        rw [hst] at hsPj hsQj
        simp -implicitDefEqProofs only [go_sem, Nat.reduceBEq, Nat.reduceAdd, Nat.reduceSub, Nat.reduceMul, Nat.reduceLeDiff, reduceCtorEq, ↓reduceIte, Int.reduceLT, Int.reduceLE, Int.reduceEq, Int.reduceNe]
        refine ⟨.bool false, ?_⟩
        simp -implicitDefEqProofs only [go_sem, Nat.reduceBEq, Nat.reduceAdd, Nat.reduceSub, Nat.reduceMul, Nat.reduceLeDiff, reduceCtorEq, ↓reduceIte, Int.reduceLT, Int.reduceLE, Int.reduceEq, Int.reduceNe]
        simp (disch := omega) only [wrap_id]
        refine Up.here ⟨f2 - 1, by omega, Up.here ⟨rfl, j + 1, p', q', rfl, by omega, ?_, ?_⟩⟩
        · rw [hp', hsPj]; simp
        · rw [hq', hsQj]; simp
      | false =>
        rw [hst] at hsPj hsQj
        simp -implicitDefEqProofs only [go_sem, Nat.reduceBEq, Nat.reduceAdd, Nat.reduceSub, Nat.reduceMul, Nat.reduceLeDiff, reduceCtorEq, ↓reduceIte, Int.reduceLT, Int.reduceLE, Int.reduceEq, Int.reduceNe]
        refine CallVC.read (slices_contains (hl.mono (lk_r _ _)) s.n) ?_
        rintro v Γ' ⟨rfl, rfl⟩
        simp -implicitDefEqProofs only [go_sem, Nat.reduceBEq, Nat.reduceAdd, Nat.reduceSub, Nat.reduceMul, Nat.reduceLeDiff, reduceCtorEq, ↓reduceIte, Int.reduceLT, Int.reduceLE, Int.reduceEq, Int.reduceNe]
        refine ⟨fun hno => ?_, fun hsin => ?_⟩
        · simp (disch := omega) only [wrap_id]
          refine Up.here ⟨f2 - 1, by omega, Up.here ⟨rfl, j + 1, p', q', rfl, by omega, ?_, ?_⟩⟩
          · rw [hp', hsPj]; exact ⟨fun h => ⟨h.1, h.2, fun _ q => absurd q hno⟩, fun h => ⟨h.1, h.2.1⟩⟩
          · rw [hq', hsQj]; exact ⟨fun h => ⟨h.1, h.2, fun _ q => absurd q hno⟩, fun h => ⟨h.1, h.2.1⟩⟩
        · simp (disch := omega) only [wrap_id]
          refine Up.here ⟨f2 - 1, by omega, Up.here ⟨rfl, j + 1, _, _, rfl, by omega, ?_, ?_⟩⟩
          · rw [Bool.and_eq_true, decide_eq_true_eq, hp', hsPj, and_assoc]
            refine and_congr_right fun _ => and_congr_right fun _ => ⟨fun h _ _ => by unfold qLast; omega, fun h => ?_⟩
            have := h rfl hsin
            unfold qLast at this
            omega
          · rw [Bool.and_eq_true, decide_eq_true_eq, hq', hsQj, and_assoc]
            refine and_congr_right fun _ => and_congr_right fun _ => ⟨fun h _ _ => by unfold qFst; omega, fun h => ?_⟩
            have := h rfl hsin
            unfold qFst at this
            omega
    · have hj : j = r.r.length := by omega
      subst hj
      simp (disch := omega) only [wrap_id]
      refine Up.here ⟨f - 1, by omega, Up.here ⟨rfl, k + 1, p', q', rfl, by omega, ?_, ?_⟩⟩
      · rw [hp', hsP]; exact and_congr_right fun _ => ⟨fun h _ => h, fun h => h hin⟩
      · rw [hq', hsQ]; exact and_congr_right fun _ => ⟨fun h _ => h, fun h => h hin⟩
  · have hk : k = g.rs.length := by omega
    subst hk
    have hfin := kindF_eq hp hq
    refine ⟨fun h1 => Up.here ?_, fun h1 => ⟨fun h2 => Up.here ?_, fun h2 => Up.here ?_⟩⟩
    · subst hR h1
      exact ⟨rfl, by rw [← hfin]; rfl⟩
    · subst hR h1 h2
      exact ⟨rfl, by rw [← hfin]; rfl⟩
    · subst hR h1 h2
      exact ⟨rfl, by rw [← hfin]; rfl⟩
theorem kt_int {P : Program} {k : TypeId} (hk : P.underlying k = some (.int .i64)) : KT P k (fun x : Int => Value.int .i64 x) (fun x => (Lit.int .i64 x).wf = true) :=
  KT.of (Maps.int_keyed hk) (fun a b h => by simpa using h) fun a ha => ⟨Lit.int .i64 a, by simp [keyOf, hk, mapKey, ha]⟩
theorem mset_dup {l : List Int} {x : Int} (h : x ∈ l) : mput (mset id l) x true = mset id l := by
  rw [mput, mset_keys, List.map_id, if_pos h]
  unfold mset
  rw [List.map_map]
  apply List.map_congr_left
  intro y _
  simp only [Function.comp, id]
  split
  · rename_i e; rw [e]
  · rfl
def intV (x : Int) : Value := .int .i64 x
def okI (x : Int) : Prop := (Lit.int .i64 x).wf = true
/-- the map b is the set l -/
def SetM (g : PH) (b : Nat) (l : List Int) : Prop := MapM g b intV Value.bool okI (mset id l)
theorem kt_164 : KT Try.prog 3 intV okI := kt_int (by kernel_rfl)
theorem set_look {Γ : Ctx} {g : PH} {b : Nat} {l : List Int} {x : Int} (h : SetM g b l) (hg : g ∈ Γ) (hx : okI x) : QR Try.prog (.look 164 false) [.map (some b), .int .i64 x] Γ (.bool (decide (x ∈ l))) := by
  have := qr_look kt_164 (t := 164) (et := 4) (z := .bool false) (by kernel_rfl) (zero_run (by kernel_rfl)) false (h.l hg) hx
  rw [mget_set, List.map_id] at this
  by_cases e : x ∈ l
  · rw [if_pos e] at this
    simpa [e, intV] using this
  · rw [if_neg e] at this
    simpa [e, intV] using this
def addS (l : List Int) (x : Int) : List Int := if x ∈ l then l else l ++ [x]
theorem addS_mem {l : List Int} {x y : Int} : y ∈ addS l x ↔ y ∈ l ∨ y = x := by
  unfold addS
  split
  · rename_i h
    exact ⟨.inl, fun q => q.elim id fun e => by rw [e]; exact h⟩
  · simp
theorem s_set {Γr : Ctx} {d : Option Nat} {r : List SOper} {φ : Fr} {Γ : Ctx} {K : Fr → Ctx → Prop} {g : PH} {ix b : Nat} {l : List Int} (hg : Γ[ix]? = some g) (hm : SetM g b l) {x : Int} (hx : okI x)
    (hk : ∀ g', SetM g' b (addS l x) → vcOps Try.prog Γr r (put φ d (.v true undef)) (Γ.set ix g') K) : aC Try.prog Γr d r φ Γ K (.upd 164) [.map (some b), .int .i64 x, .bool true] := by
  refine s_upd kt_164 (t := 164) (et := 4) (eV := Value.bool) (by kernel_rfl) hg hm true hx fun g' h _ => hk g' ?_
  unfold addS
  split
  · rename_i h1
    rw [mset_dup h1] at h
    exact h
  · rename_i h1
    have := mput_set id l x (by simpa using h1)
    simp only [id] at this
    rw [this] at h
    exact h
theorem Und.add {g : Gr} {a : Nat} {m : List Int} (h : Und g a m) {r : Ru} (hr : r ∈ g.rs) (hl : r.l ∈ m) {s : Sy} (hs : s ∈ r.r) (ht : s.t = false) (hn : 0 ≤ s.n) : Und g a (addS m s.n) := by
  refine ⟨?_, addS_mem.2 (.inl h.2.1), fun x hx => ?_⟩
  · unfold addS
    split
    · exact h.1
    · rename_i q
      rw [List.nodup_append]
      refine ⟨h.1, by simp, ?_⟩
      rintro x hx y hy rfl
      simp at hy
      subst hy
      exact q hx
  · rcases addS_mem.1 hx with hx | rfl
    · exact h.2.2 x hx
    · obtain ⟨b, hb, hR⟩ := h.2.2 _ hl
      exact ⟨s.n.toNat, by omega, .step hR ⟨r, hr, hb, s, hs, ht, by omega⟩⟩
theorem okI_of {x : Int} (h : 0 ≤ x ∧ x < 1000) : okI x := wf64 (by omega) (by omega)
set_option maxHeartbeats 1000000 in
theorem und_under {Γr : Ctx} {b : Nat} {g : Gr} {A : Option Addr} {c : Nat} (hb : lk Γr b (.cells [.int .i64 g.ts, .int .i64 g.ns, .int .i64 g.st, .slice A g.rs.length c].toArray 57 (0, 0))) (hx : SlOk (lk Γr) A c g.rs) (V : VG g) {n a : Nat} (hn : g.ns = n) (ha : a < n) :
    Ret Try.prog 125 [.int .i64 a, .pointer (some ⟨b, 0, none⟩)] Γr [] (fun v Γ => ∃ gm bm m, Γ = [gm] ∧ v = .map (some bm) ∧ SetM gm bm m ∧ ∀ x : Nat, (x : Int) ∈ m ↔ RT (Edg g) a x) := by
  generalize hR : (fun (v : Value) (Γ : Ctx) => ∃ gm bm m, _) = R
  refine ret_of_vc tr125 (Nat.le_of_ble_eq_true rfl) ?_
  have hvl := V.len
  have hns := V.ns
  simp -implicitDefEqProofs only [S125, S125_0, go_sem, Nat.reduceBEq, Nat.reduceAdd, Nat.reduceSub, Nat.reduceMul, Nat.reduceLeDiff, reduceCtorEq, ↓reduceIte, Int.reduceLT, Int.reduceLE, Int.reduceEq, Int.reduceNe]
  refine s_mkmap fun bm => ?_
  simp -implicitDefEqProofs only [go_sem, Nat.reduceBEq, Nat.reduceAdd, Nat.reduceSub, Nat.reduceMul, Nat.reduceLeDiff, reduceCtorEq, ↓reduceIte, Int.reduceLT, Int.reduceLE, Int.reduceEq, Int.reduceNe]
  refine s_set (ix := 0) (l := []) rfl (MapM.new _ _ _ _) (okI_of (by omega)) fun gm hM => ?_
  have hM : SetM gm bm [(a : Int)] := hM
  simp -implicitDefEqProofs only [go_sem, Nat.reduceBEq, Nat.reduceAdd, Nat.reduceSub, Nat.reduceMul, Nat.reduceLeDiff, reduceCtorEq, ↓reduceIte, Int.reduceLT, Int.reduceLE, Int.reduceEq, Int.reduceNe]
  refine s_ld (o := 0) (j := 1) (cells_lk (lk_r _ _ _ _ hb)) (by simp) (by simp) ?_
  simp -implicitDefEqProofs only [go_sem, Nat.reduceBEq, Nat.reduceAdd, Nat.reduceSub, Nat.reduceMul, Nat.reduceLeDiff, reduceCtorEq, ↓reduceIte, Int.reduceLT, Int.reduceLE, Int.reduceEq, Int.reduceNe]
  rw [hn]
  refine s_loop (fun f vs Γ => ∃ (k : Nat) (gm : PH) (m : List Int), vs = [.v true (.int .i64 k)] ∧ Γ = [gm] ∧ k + f = n ∧ SetM gm bm m ∧ Und g a m ∧ (Full g a m ∨ k + 1 ≤ m.length)) n
    (Up.here ⟨0, gm, _, rfl, rfl, by omega, hM, ⟨by simp, by simp, fun x hx => by simp at hx; exact ⟨a, hx, .refl a⟩⟩, .inr (by simp)⟩) ?_
  clear hM
  rintro f vs Γ ⟨k, gm, m, rfl, rfl, hkf, hM, hU, hF⟩
  simp -implicitDefEqProofs only [S125_5, go_sem, Nat.reduceBEq, Nat.reduceAdd, Nat.reduceSub, Nat.reduceMul, Nat.reduceLeDiff, reduceCtorEq, ↓reduceIte, Int.reduceLT, Int.reduceLE, Int.reduceEq, Int.reduceNe]
  refine ⟨fun hlt => ?_, fun hge => ?_⟩
  · refine s_ld (o := 0) (j := 3) (cells_lk (lk_r _ _ _ _ hb)) (by simp) (by simp) ?_
    simp -implicitDefEqProofs only [go_sem, Nat.reduceBEq, Nat.reduceAdd, Nat.reduceSub, Nat.reduceMul, Nat.reduceLeDiff, reduceCtorEq, ↓reduceIte, Int.reduceLT, Int.reduceLE, Int.reduceEq, Int.reduceNe]
    refine s_loop (fun f2 vs Γ => ∃ (i : Nat) (gm : PH) (m2 : List Int), vs = [.v true (.int .i64 i)] ∧ Γ = [gm] ∧ i + f2 = g.rs.length ∧ SetM gm bm m2 ∧ Und g a m2 ∧ (∀ x ∈ m, x ∈ m2) ∧ ∀ r ∈ g.rs.take i, r.l ∈ m → ∀ s ∈ r.r, s.t = false → s.n ∈ m2) g.rs.length
      (Up.here ⟨0, gm, m, rfl, rfl, by omega, hM, hU, fun x h => h, by simp⟩) ?_
    clear hM
    rintro f2 vs Γ ⟨i, gm, m2, rfl, rfl, hif, hM, hU2, hs2, hc2⟩
    simp -implicitDefEqProofs only [S125_4, go_sem, Nat.reduceBEq, Nat.reduceAdd, Nat.reduceSub, Nat.reduceMul, Nat.reduceLeDiff, reduceCtorEq, ↓reduceIte, Int.reduceLT, Int.reduceLE, Int.reduceEq, Int.reduceNe]
    refine ⟨fun hlt => ?_, fun hge => ?_⟩
    · have hi : i < g.rs.length := by omega
      have hmem : g.rs[i] ∈ g.rs := List.getElem_mem hi
      have hr4 := V.right _ hmem
      have hleft := V.left _ hmem
      have hsym := V.sym _ hmem
      have htk : g.rs.take (i + 1) = g.rs.take i ++ [g.rs[i]] := List.take_succ_eq_append_getElem hi
      obtain ⟨b1, o1, hA2, A3, c3, hr3, hc3⟩ := hx.ru hi
      generalize g.rs[i] = r at *
      refine s_idx hA2 (by omega) (by omega) ?_
      simp -implicitDefEqProofs only [go_sem, Nat.reduceBEq, Nat.reduceAdd, Nat.reduceSub, Nat.reduceMul, Nat.reduceLeDiff, reduceCtorEq, ↓reduceIte, Int.reduceLT, Int.reduceLE, Int.reduceEq, Int.reduceNe]
      refine s_ld0 (hc3 _ (lk_r _ _)) (by simp) (by simp) ?_
      simp -implicitDefEqProofs only [go_sem, Nat.reduceBEq, Nat.reduceAdd, Nat.reduceSub, Nat.reduceMul, Nat.reduceLeDiff, reduceCtorEq, ↓reduceIte, Int.reduceLT, Int.reduceLE, Int.reduceEq, Int.reduceNe]
      intro b2
      refine s_loop (fun f3 vs Γ => ∃ (j : Nat) (gm : PH) (m3 : List Int), vs = [.v true (.int .i64 j)] ∧ Γ = [gm] ∧ j + f3 = r.r.length ∧ SetM gm bm m3 ∧ Und g a m3 ∧ (∀ x ∈ m2, x ∈ m3) ∧ (r.l ∈ m → ∀ s ∈ r.r.take j, s.t = false → s.n ∈ m3)) r.r.length
        (Up.here ⟨0, gm, m2, rfl, rfl, by omega, hM, hU2, fun x h => h, by simp⟩) ?_
      clear hM
      rintro f3 vs Γ ⟨j, gm, m3, rfl, rfl, hjf, hM, hU3, hs3, hc4⟩
      simp -implicitDefEqProofs only [S125_3, go_sem, Nat.reduceBEq, Nat.reduceAdd, Nat.reduceSub, Nat.reduceMul, Nat.reduceLeDiff, reduceCtorEq, ↓reduceIte, Int.reduceLT, Int.reduceLE, Int.reduceEq, Int.reduceNe]
      refine ⟨fun hlt => ?_, fun hge => ?_⟩
      · have hj : j < r.r.length := by omega
        have hsm : r.r[j] ∈ r.r := List.getElem_mem hj
        have hs := hsym _ hsm
        have htk2 : r.r.take (j + 1) = r.r.take j ++ [r.r[j]] := List.take_succ_eq_append_getElem hj
        obtain ⟨b3, o3, hA4, hc5⟩ := hr3.sy hj
        generalize r.r[j] = s at *
        have fin : ∀ g' m4, SetM g' bm m4 → Und g a m4 → (∀ x ∈ m3, x ∈ m4) → (r.l ∈ m → s.t = false → s.n ∈ m4) → ∃ n', n' < f3 ∧ Up [g'] fun Γ => ∃ (j' : Nat) (gm : PH) (m3 : List Int), [Sl.v true (Value.int IntKind.i64 ((j : Int) + 1))] = [.v true (.int .i64 j')] ∧ Γ = [gm] ∧ j' + n' = r.r.length ∧ SetM gm bm m3 ∧ Und g a m3 ∧ (∀ x ∈ m2, x ∈ m3) ∧ (r.l ∈ m → ∀ s ∈ r.r.take j', s.t = false → s.n ∈ m3) := by
          intro g' m4 h1 h2 h3 h4
          refine ⟨f3 - 1, by omega, Up.here ⟨j + 1, g', m4, rfl, rfl, by omega, h1, h2, fun x hx => h3 x (hs3 x hx), fun hl y hy ht => ?_⟩⟩
          rw [htk2] at hy
          rcases List.mem_append.1 hy with hy | hy
          · exact h3 _ (hc4 hl y hy ht)
          · simp at hy
            subst hy
            exact h4 hl ht
        refine s_split ?_
        simp -implicitDefEqProofs only [S125_1, S125_2, go_sem, Nat.reduceBEq, Nat.reduceAdd, Nat.reduceSub, Nat.reduceMul, Nat.reduceLeDiff, reduceCtorEq, ↓reduceIte, Int.reduceLT, Int.reduceLE, Int.reduceEq, Int.reduceNe]
        refine s_idx hA4 (by omega) (by omega) ?_
        simp -implicitDefEqProofs only [go_sem, Nat.reduceBEq, Nat.reduceAdd, Nat.reduceSub, Nat.reduceMul, Nat.reduceLeDiff, reduceCtorEq, ↓reduceIte, Int.reduceLT, Int.reduceLE, Int.reduceEq, Int.reduceNe]
        refine s_ld0 (hc5 _ (lk_r _ _)) (by simp) (by simp) ?_
        simp -implicitDefEqProofs only [go_sem, Nat.reduceBEq, Nat.reduceAdd, Nat.reduceSub, Nat.reduceMul, Nat.reduceLeDiff, reduceCtorEq, ↓reduceIte, Int.reduceLT, Int.reduceLE, Int.reduceEq, Int.reduceNe]
        intro b4
        refine s_q trivial (set_look hM (by simp) (okI_of (by omega))) ?_
        simp -implicitDefEqProofs only [go_sem, Nat.reduceBEq, Nat.reduceAdd, Nat.reduceSub, Nat.reduceMul, Nat.reduceLeDiff, reduceCtorEq, ↓reduceIte, Int.reduceLT, Int.reduceLE, Int.reduceEq, Int.reduceNe]
        refine ⟨fun h1 => ?_, fun h1 => Up.here ?_⟩
        · have hsn := hs.2.2 h1.2
          refine s_set (ix := 0) rfl hM (okI_of (by omega)) fun g' hM' => ?_
          simp -implicitDefEqProofs only [go_sem, Nat.reduceBEq, Nat.reduceAdd, Nat.reduceSub, Nat.reduceMul, Nat.reduceLeDiff, reduceCtorEq, ↓reduceIte, Int.reduceLT, Int.reduceLE, Int.reduceEq, Int.reduceNe]
          simp (disch := omega) only [wrap_id]
          exact Up.here <| fin g' _ hM' (hU3.add hmem h1.1 hsm h1.2 hs.1) (fun x hx => addS_mem.2 (.inl hx)) (fun _ _ => addS_mem.2 (.inr rfl))
        · simp (disch := omega) only [wrap_id]
          refine fin gm m3 hM hU3 (fun x h => h) (fun h2 h3 => ?_)
          rcases h1 with h1 | h1
          · exact absurd (hs3 _ (hs2 _ h2)) h1
          · rw [h3] at h1; cases h1
      · have hj : j = r.r.length := by omega
        rw [hj, List.take_length] at hc4
        simp (disch := omega) only [wrap_id]
        refine ⟨f2 - 1, by omega, Up.here ⟨i + 1, gm, m3, rfl, rfl, by omega, hM, hU3, fun x hx => hs3 x (hs2 x hx), fun r' hr' => ?_⟩⟩
        rw [htk] at hr'
        rcases List.mem_append.1 hr' with q | q
        · exact fun h1 s h2 h3 => hs3 _ (hc2 r' q h1 s h2 h3)
        · simp at q
          subst q
          exact hc4
    · have hi : i = g.rs.length := by omega
      rw [hi, List.take_length] at hc2
      simp (disch := omega) only [wrap_id]
      refine ⟨f - 1, by omega, Up.here ⟨k + 1, gm, m2, rfl, rfl, by omega, hM, hU2, ?_⟩⟩
      rcases hF with hF | hF
      · exact .inl fun b hb => hs2 _ (hF b hb)
      · exact (und_grow hU hU2 hs2 hc2).imp id fun h => by omega
  · have hk : k = n := by omega
    have hf : Full g a m := by
      rcases hF with hF | hF
      · exact hF
      · have := und_len V hn ha hU
        omega
    refine Up.here ?_
    subst hR
    exact ⟨gm, bm, m, rfl, rfl, hM, fun x => und_iff hU hf x⟩
end Go.Proofs.Ytniobbepliknmaa.V
/- The text of parlance/approx.Components as a statement (slots: 0 g, 1 g, 4 e, 5 way, 6 a, 7 _, 8 r, 9 _, 10 s, 11 a, 12 b, 13 c, 14 out, 15 done, 16 a, 17 c, 18 b); no condition. -/
namespace Go.Proofs.Ytniobbepliknmaa.V
open Go
def S55_1 : Stmt :=
  Stmt.seq
  (Stmt.region [SOper.mk (some 30) none (SOp.ibin BinOp.lss (Operand.tmp 29) (Operand.tmp 28))] [1, 5, 28, 29, 30])
  (Stmt.seq (Stmt.cond (Operand.tmp 30) Stmt.skip (Stmt.exit 0))
    (Stmt.seq
      (Stmt.block 1
        (Stmt.seq
          (Stmt.region
            [SOper.mk (some 31) none (SOp.mv (Operand.tmp 29)), SOper.mk (some 6) none (SOp.mv (Operand.tmp 31))]
            [1, 5, 6, 28, 29])
          (Stmt.seq
            (Stmt.region
              [SOper.mk (some 32) none (SOp.mv (Operand.tmp 5)), SOper.mk (some 33) none (SOp.mv (Operand.tmp 6)),
                SOper.mk (some 34) none (SOp.fld 1 (Operand.tmp 1)),
                SOper.mk (some 35) none (SOp.load false 1 (Operand.tmp 34)),
                SOper.mk (some 36) none (SOp.mk 4 1 1 (Value.bool false) (Operand.tmp 35) (Operand.tmp 35)),
                SOper.mk (some 37) none (SOp.idx 1 (Operand.tmp 32) (Operand.tmp 33)),
                SOper.mk none none (SOp.store 1 (Operand.tmp 37) (Operand.tmp 36))]
              [1, 5, 6, 28, 29])
            (Stmt.region
              [SOper.mk (some 38) none (SOp.mv (Operand.tmp 5)), SOper.mk (some 39) none (SOp.mv (Operand.tmp 6)),
                SOper.mk (some 40) none (SOp.idx 1 (Operand.tmp 38) (Operand.tmp 39)),
                SOper.mk (some 41) none (SOp.load false 1 (Operand.tmp 40)),
                SOper.mk (some 42) none (SOp.mv (Operand.tmp 6)),
                SOper.mk (some 43) none (SOp.idx 1 (Operand.tmp 41) (Operand.tmp 42)),
                SOper.mk none none (SOp.store 1 (Operand.tmp 43) (Operand.const (Value.bool true)))]
              [1, 5, 28, 29]))))
      (Stmt.region
        [SOper.mk (some 44) none (SOp.ibin BinOp.add (Operand.tmp 29) (Operand.const (Value.int IntKind.i64 1))),
          SOper.mk (some 29) none (SOp.mv (Operand.tmp 44))]
        [1, 5, 28, 29])))
def S55_2 : Stmt :=
  Stmt.block 5
  (Stmt.seq
    (Stmt.region
      [SOper.mk (some 57) none (SOp.idx 2 (Operand.tmp 53) (Operand.tmp 55)),
        SOper.mk (some 58) none (SOp.load true 2 (Operand.tmp 57)),
        SOper.mk (some 10) none (SOp.alloc true 39 (Value.agg (Array.mk [Value.bool false, Value.int IntKind.i64 0]))),
        SOper.mk none none (SOp.store 2 (Operand.tmp 10) (Operand.tmp 58))]
      [1, 5, 8, 10, 46, 47, 48, 53, 54, 55])
    (Stmt.seq
      (Stmt.region
        [SOper.mk (some 59) none (SOp.fld 0 (Operand.tmp 10)),
          SOper.mk (some 60) none (SOp.load false 1 (Operand.tmp 59)),
          SOper.mk (some 61) none (SOp.un UnOp.not (Operand.tmp 60))]
        [1, 5, 8, 10, 46, 47, 48, 53, 54, 55, 61])
      (Stmt.cond (Operand.tmp 61)
        (Stmt.drawn
          [(false, SOper.mk (some 62) none (SOp.mv (Operand.tmp 5))),
            (false, SOper.mk (some 63) none (SOp.fld 0 (Operand.tmp 8))),
            (false, SOper.mk (some 64) none (SOp.load false 1 (Operand.tmp 63))),
            (false, SOper.mk (some 65) none (SOp.idx 1 (Operand.tmp 62) (Operand.tmp 64))),
            (false, SOper.mk (some 66) none (SOp.load false 1 (Operand.tmp 65))),
            (false, SOper.mk (some 67) none (SOp.fld 1 (Operand.tmp 10))),
            (false, SOper.mk (some 68) none (SOp.load false 1 (Operand.tmp 67))),
            (false, SOper.mk (some 69) none (SOp.idx 1 (Operand.tmp 66) (Operand.tmp 68))),
            (false, SOper.mk none none (SOp.store 1 (Operand.tmp 69) (Operand.const (Value.bool true))))]
          [1, 5, 8, 46, 47, 48, 53, 54, 55])
        Stmt.skip)))
def S55_3 : Stmt :=
  Stmt.region
  [SOper.mk (some 70) none (SOp.ibin BinOp.add (Operand.tmp 55) (Operand.const (Value.int IntKind.i64 1))),
    SOper.mk (some 55) none (SOp.mv (Operand.tmp 70))]
  [1, 5, 8, 46, 47, 48, 53, 54, 55]
def S55_4 : Stmt :=
  Stmt.seq
  (Stmt.region [SOper.mk (some 56) none (SOp.ibin BinOp.lss (Operand.tmp 55) (Operand.tmp 54))]
    [1, 5, 8, 46, 47, 48, 53, 54, 55, 56])
  (Stmt.seq (Stmt.cond (Operand.tmp 56) Stmt.skip (Stmt.exit 4))
    (Stmt.join S55_2 S55_3 [] [1, 5, 8, 46, 47, 48, 53, 54, 55]))
def S55_5 : Stmt :=
  Stmt.seq
  (Stmt.region [SOper.mk (some 49) none (SOp.ibin BinOp.lss (Operand.tmp 48) (Operand.tmp 47))] [1, 5, 46, 47, 48, 49])
  (Stmt.seq (Stmt.cond (Operand.tmp 49) Stmt.skip (Stmt.exit 2))
    (Stmt.seq
      (Stmt.block 3
        (Stmt.seq
          (Stmt.region
            [SOper.mk (some 50) none (SOp.idx 2 (Operand.tmp 46) (Operand.tmp 48)),
              SOper.mk (some 51) none (SOp.load true 2 (Operand.tmp 50)),
              SOper.mk (some 8) none
                (SOp.alloc true 37 (Value.agg (Array.mk [Value.int IntKind.i64 0, Value.slice none 0 0]))),
              SOper.mk none none (SOp.store 2 (Operand.tmp 8) (Operand.tmp 51))]
            [1, 5, 8, 46, 47, 48])
          (Stmt.seq
            (Stmt.region
              [SOper.mk (some 52) none (SOp.fld 1 (Operand.tmp 8)),
                SOper.mk (some 53) none (SOp.load false 1 (Operand.tmp 52)),
                SOper.mk (some 54) none (SOp.len false (Operand.tmp 53)),
                SOper.mk (some 55) none (SOp.mv (Operand.const (Value.int IntKind.i64 0)))]
              [1, 5, 8, 46, 47, 48, 53, 54, 55])
            (Stmt.block 4 (Stmt.loop S55_4 [55] [1, 5, 8, 46, 47, 48, 53, 54])))))
      (Stmt.region
        [SOper.mk (some 71) none (SOp.ibin BinOp.add (Operand.tmp 48) (Operand.const (Value.int IntKind.i64 1))),
          SOper.mk (some 48) none (SOp.mv (Operand.tmp 71))]
        [1, 5, 46, 47, 48])))
def S55_6 : Stmt :=
  Stmt.seq
  (Stmt.region [SOper.mk (some 85) none (SOp.ibin BinOp.lss (Operand.tmp 84) (Operand.tmp 83))]
    [1, 5, 11, 12, 73, 74, 78, 79, 83, 84, 85])
  (Stmt.seq (Stmt.cond (Operand.tmp 85) Stmt.skip (Stmt.exit 10))
    (Stmt.seq
      (Stmt.block 11
        (Stmt.seq
          (Stmt.region
            [SOper.mk (some 86) none (SOp.mv (Operand.tmp 84)), SOper.mk (some 13) none (SOp.mv (Operand.tmp 86))]
            [1, 5, 11, 12, 13, 73, 74, 78, 79, 83, 84])
          (Stmt.drawn
            [(false, SOper.mk (some 87) none (SOp.mv (Operand.tmp 5))),
              (false, SOper.mk (some 88) none (SOp.mv (Operand.tmp 12))),
              (false, SOper.mk (some 89) none (SOp.idx 1 (Operand.tmp 87) (Operand.tmp 88))),
              (false, SOper.mk (some 90) none (SOp.load false 1 (Operand.tmp 89))),
              (false, SOper.mk (some 91) none (SOp.mv (Operand.tmp 13))),
              (false, SOper.mk (some 92) none (SOp.mv (Operand.tmp 5))),
              (false, SOper.mk (some 93) none (SOp.mv (Operand.tmp 12))),
              (false, SOper.mk (some 94) none (SOp.idx 1 (Operand.tmp 92) (Operand.tmp 93))),
              (false, SOper.mk (some 95) none (SOp.load false 1 (Operand.tmp 94))),
              (false, SOper.mk (some 96) none (SOp.mv (Operand.tmp 13))),
              (false, SOper.mk (some 97) none (SOp.idx 1 (Operand.tmp 95) (Operand.tmp 96))),
              (false, SOper.mk (some 98) none (SOp.load false 1 (Operand.tmp 97))),
              (false, SOper.mk (some 99) none (SOp.mv (Operand.tmp 98))),
              (false, SOper.mk (some 100) (some (99, false)) (SOp.mv (Operand.tmp 5))),
              (false, SOper.mk (some 101) (some (99, false)) (SOp.mv (Operand.tmp 12))),
              (false, SOper.mk (some 102) (some (99, false)) (SOp.idx 1 (Operand.tmp 100) (Operand.tmp 101))),
              (false, SOper.mk (some 103) (some (99, false)) (SOp.load false 1 (Operand.tmp 102))),
              (false, SOper.mk (some 104) (some (99, false)) (SOp.mv (Operand.tmp 11))),
              (false, SOper.mk (some 105) (some (99, false)) (SOp.idx 1 (Operand.tmp 103) (Operand.tmp 104))),
              (false, SOper.mk (some 106) (some (99, false)) (SOp.load false 1 (Operand.tmp 105))),
              (false, SOper.mk (some 107) (some (99, false)) (SOp.mv (Operand.tmp 106))),
              (false, SOper.mk (some 108) (some (107, true)) (SOp.mv (Operand.tmp 5))),
              (false, SOper.mk (some 109) (some (107, true)) (SOp.mv (Operand.tmp 11))),
              (false, SOper.mk (some 110) (some (107, true)) (SOp.idx 1 (Operand.tmp 108) (Operand.tmp 109))),
              (false, SOper.mk (some 111) (some (107, true)) (SOp.load false 1 (Operand.tmp 110))),
              (false, SOper.mk (some 112) (some (107, true)) (SOp.mv (Operand.tmp 13))),
              (false, SOper.mk (some 113) (some (107, true)) (SOp.idx 1 (Operand.tmp 111) (Operand.tmp 112))),
              (false, SOper.mk (some 114) (some (107, true)) (SOp.load false 1 (Operand.tmp 113))),
              (false,
                SOper.mk (some 115) (some (99, false))
                  (SOp.pick (Operand.tmp 107) (Operand.tmp 114) (Operand.const (Value.bool false)))),
              (false,
                SOper.mk (some 116) none
                  (SOp.pick (Operand.tmp 99) (Operand.const (Value.bool true)) (Operand.tmp 115))),
              (false, SOper.mk (some 117) none (SOp.idx 1 (Operand.tmp 90) (Operand.tmp 91))),
              (false, SOper.mk none none (SOp.store 1 (Operand.tmp 117) (Operand.tmp 116)))]
            [1, 5, 11, 12, 73, 74, 78, 79, 83, 84])))
      (Stmt.region
        [SOper.mk (some 118) none (SOp.ibin BinOp.add (Operand.tmp 84) (Operand.const (Value.int IntKind.i64 1))),
          SOper.mk (some 84) none (SOp.mv (Operand.tmp 118))]
        [1, 5, 11, 12, 73, 74, 78, 79, 83, 84])))
def S55_7 : Stmt :=
  Stmt.seq
  (Stmt.region [SOper.mk (some 80) none (SOp.ibin BinOp.lss (Operand.tmp 79) (Operand.tmp 78))]
    [1, 5, 11, 73, 74, 78, 79, 80])
  (Stmt.seq (Stmt.cond (Operand.tmp 80) Stmt.skip (Stmt.exit 8))
    (Stmt.seq
      (Stmt.block 9
        (Stmt.seq
          (Stmt.region
            [SOper.mk (some 81) none (SOp.mv (Operand.tmp 79)), SOper.mk (some 12) none (SOp.mv (Operand.tmp 81))]
            [1, 5, 11, 12, 73, 74, 78, 79])
          (Stmt.seq
            (Stmt.region
              [SOper.mk (some 82) none (SOp.mv (Operand.tmp 5)),
                SOper.mk (some 83) none (SOp.len false (Operand.tmp 82)),
                SOper.mk (some 84) none (SOp.mv (Operand.const (Value.int IntKind.i64 0)))]
              [1, 5, 11, 12, 73, 74, 78, 79, 83, 84])
            (Stmt.block 10 (Stmt.loop S55_6 [84] [1, 5, 11, 12, 73, 74, 78, 79, 83])))))
      (Stmt.region
        [SOper.mk (some 119) none (SOp.ibin BinOp.add (Operand.tmp 79) (Operand.const (Value.int IntKind.i64 1))),
          SOper.mk (some 79) none (SOp.mv (Operand.tmp 119))]
        [1, 5, 11, 73, 74, 78, 79])))
def S55_8 : Stmt :=
  Stmt.seq
  (Stmt.region [SOper.mk (some 75) none (SOp.ibin BinOp.lss (Operand.tmp 74) (Operand.tmp 73))] [1, 5, 73, 74, 75])
  (Stmt.seq (Stmt.cond (Operand.tmp 75) Stmt.skip (Stmt.exit 6))
    (Stmt.seq
      (Stmt.block 7
        (Stmt.seq
          (Stmt.region
            [SOper.mk (some 76) none (SOp.mv (Operand.tmp 74)), SOper.mk (some 11) none (SOp.mv (Operand.tmp 76))]
            [1, 5, 11, 73, 74])
          (Stmt.seq
            (Stmt.region
              [SOper.mk (some 77) none (SOp.mv (Operand.tmp 5)),
                SOper.mk (some 78) none (SOp.len false (Operand.tmp 77)),
                SOper.mk (some 79) none (SOp.mv (Operand.const (Value.int IntKind.i64 0)))]
              [1, 5, 11, 73, 74, 78, 79])
            (Stmt.block 8 (Stmt.loop S55_7 [79] [1, 5, 11, 73, 74, 78])))))
      (Stmt.region
        [SOper.mk (some 120) none (SOp.ibin BinOp.add (Operand.tmp 74) (Operand.const (Value.int IntKind.i64 1))),
          SOper.mk (some 74) none (SOp.mv (Operand.tmp 120))]
        [1, 5, 73, 74])))
def S55_9 : Stmt :=
  Stmt.block 15
  (Stmt.seq
    (Stmt.region
      [SOper.mk (some 138) none (SOp.mv (Operand.tmp 136)), SOper.mk (some 18) none (SOp.mv (Operand.tmp 138))]
      [1, 5, 14, 15, 16, 17, 18, 125, 126, 135, 136])
    (Stmt.seq
      (Stmt.region
        [SOper.mk (some 139) none (SOp.mv (Operand.tmp 5)), SOper.mk (some 140) none (SOp.mv (Operand.tmp 16)),
          SOper.mk (some 141) none (SOp.idx 1 (Operand.tmp 139) (Operand.tmp 140)),
          SOper.mk (some 142) none (SOp.load false 1 (Operand.tmp 141)),
          SOper.mk (some 143) none (SOp.mv (Operand.tmp 18)),
          SOper.mk (some 144) none (SOp.idx 1 (Operand.tmp 142) (Operand.tmp 143)),
          SOper.mk (some 145) none (SOp.load false 1 (Operand.tmp 144)),
          SOper.mk (some 146) none (SOp.mv (Operand.tmp 145)),
          SOper.mk (some 147) (some (146, true)) (SOp.mv (Operand.tmp 5)),
          SOper.mk (some 148) (some (146, true)) (SOp.mv (Operand.tmp 18)),
          SOper.mk (some 149) (some (146, true)) (SOp.idx 1 (Operand.tmp 147) (Operand.tmp 148)),
          SOper.mk (some 150) (some (146, true)) (SOp.load false 1 (Operand.tmp 149)),
          SOper.mk (some 151) (some (146, true)) (SOp.mv (Operand.tmp 16)),
          SOper.mk (some 152) (some (146, true)) (SOp.idx 1 (Operand.tmp 150) (Operand.tmp 151)),
          SOper.mk (some 153) (some (146, true)) (SOp.load false 1 (Operand.tmp 152)),
          SOper.mk (some 154) none (SOp.pick (Operand.tmp 146) (Operand.tmp 153) (Operand.const (Value.bool false)))]
        [1, 5, 14, 15, 16, 17, 18, 125, 126, 135, 136, 154])
      (Stmt.cond (Operand.tmp 154)
        (Stmt.seq
          (Stmt.region
            [SOper.mk (some 155) none (SOp.fld 1 (Operand.tmp 17)),
              SOper.mk (some 156) none (SOp.load false 1 (Operand.tmp 155)),
              SOper.mk (some 157) none (SOp.mv (Operand.tmp 18)),
              SOper.mk (some 158) none (SOp.buildS 3 1 [Value.int IntKind.i64 0] [(0, 1, Operand.tmp 157)]),
              SOper.mk (some 159) none
                (SOp.append 29 3 1 8 (Value.int IntKind.i64 0) (Operand.tmp 156) (Operand.tmp 158)),
              SOper.mk (some 160) none (SOp.fld 1 (Operand.tmp 17)),
              SOper.mk none none (SOp.store 1 (Operand.tmp 160) (Operand.tmp 159))]
            [1, 5, 14, 15, 16, 17, 18, 125, 126, 135, 136])
          (Stmt.region
            [SOper.mk (some 161) none (SOp.mv (Operand.tmp 15)), SOper.mk (some 162) none (SOp.mv (Operand.tmp 18)),
              SOper.mk (some 163) none (SOp.idx 1 (Operand.tmp 161) (Operand.tmp 162)),
              SOper.mk none none (SOp.store 1 (Operand.tmp 163) (Operand.const (Value.bool true)))]
            [1, 5, 14, 15, 16, 17, 125, 126, 135, 136]))
        Stmt.skip)))
def S55_10 : Stmt :=
  Stmt.region
  [SOper.mk (some 164) none (SOp.ibin BinOp.add (Operand.tmp 136) (Operand.const (Value.int IntKind.i64 1))),
    SOper.mk (some 136) none (SOp.mv (Operand.tmp 164))]
  [1, 5, 14, 15, 16, 17, 125, 126, 135, 136]
def S55_11 : Stmt :=
  Stmt.seq
  (Stmt.region [SOper.mk (some 137) none (SOp.ibin BinOp.lss (Operand.tmp 136) (Operand.tmp 135))]
    [1, 5, 14, 15, 16, 17, 125, 126, 135, 136, 137])
  (Stmt.seq (Stmt.cond (Operand.tmp 137) Stmt.skip (Stmt.exit 14))
    (Stmt.join S55_9 S55_10 [17] [1, 5, 14, 15, 16, 125, 126, 135, 136]))
def S55_12 : Stmt :=
  Stmt.block 13
  (Stmt.seq
    (Stmt.region
      [SOper.mk (some 128) none (SOp.mv (Operand.tmp 126)), SOper.mk (some 16) none (SOp.mv (Operand.tmp 128))]
      [1, 5, 14, 15, 16, 125, 126])
    (Stmt.seq
      (Stmt.seq
        (Stmt.region
          [SOper.mk (some 129) none (SOp.mv (Operand.tmp 15)), SOper.mk (some 130) none (SOp.mv (Operand.tmp 16)),
            SOper.mk (some 131) none (SOp.idx 1 (Operand.tmp 129) (Operand.tmp 130)),
            SOper.mk (some 132) none (SOp.load false 1 (Operand.tmp 131))]
          [1, 5, 14, 15, 16, 125, 126, 132])
        (Stmt.cond (Operand.tmp 132) (Stmt.exit 13) Stmt.skip))
      (Stmt.seq
        (Stmt.region
          [SOper.mk (some 133) none (SOp.build 91 [Value.int IntKind.i64 0, Value.slice none 0 0] []),
            SOper.mk (some 17) none
              (SOp.alloc true 91 (Value.agg (Array.mk [Value.int IntKind.i64 0, Value.slice none 0 0]))),
            SOper.mk none none (SOp.store 2 (Operand.tmp 17) (Operand.tmp 133))]
          [1, 5, 14, 15, 16, 17, 125, 126])
        (Stmt.seq
          (Stmt.seq
            (Stmt.region
              [SOper.mk (some 134) none (SOp.mv (Operand.tmp 5)),
                SOper.mk (some 135) none (SOp.len false (Operand.tmp 134)),
                SOper.mk (some 136) none (SOp.mv (Operand.const (Value.int IntKind.i64 0)))]
              [1, 5, 14, 15, 16, 17, 125, 126, 135, 136])
            (Stmt.block 14 (Stmt.loop S55_11 [17, 136] [1, 5, 14, 15, 16, 125, 126, 135])))
          (Stmt.seq
            (Stmt.region
              [SOper.mk (some 165) none (SOp.load true 4 (Operand.tmp 1)),
                SOper.mk (some 166) none (SOp.fld 1 (Operand.tmp 17)),
                SOper.mk (some 167) none (SOp.load false 1 (Operand.tmp 166)),
                SOper.mk (some 168) none (SOp.call (Operand.func 124) [Operand.tmp 165, Operand.tmp 167]),
                SOper.mk (some 169) none (SOp.fld 0 (Operand.tmp 17)),
                SOper.mk none none (SOp.store 1 (Operand.tmp 169) (Operand.tmp 168))]
              [1, 5, 14, 15, 17, 125, 126])
            (Stmt.region
              [SOper.mk (some 170) none (SOp.mv (Operand.tmp 14)),
                SOper.mk (some 171) none (SOp.load true 2 (Operand.tmp 17)),
                SOper.mk (some 172) none
                  (SOp.buildS 91 1 [Value.int IntKind.i64 0, Value.slice none 0 0] [(0, 2, Operand.tmp 171)]),
                SOper.mk (some 173) none
                  (SOp.append 87 91 2 32 (Value.agg (Array.mk [Value.int IntKind.i64 0, Value.slice none 0 0]))
                    (Operand.tmp 170) (Operand.tmp 172)),
                SOper.mk (some 14) none (SOp.mv (Operand.tmp 173))]
              [1, 5, 14, 15, 125, 126]))))))
def S55_13 : Stmt :=
  Stmt.region
  [SOper.mk (some 174) none (SOp.ibin BinOp.add (Operand.tmp 126) (Operand.const (Value.int IntKind.i64 1))),
    SOper.mk (some 126) none (SOp.mv (Operand.tmp 174))]
  [1, 5, 14, 15, 125, 126]
def S55_14 : Stmt :=
  Stmt.seq
  (Stmt.region [SOper.mk (some 127) none (SOp.ibin BinOp.lss (Operand.tmp 126) (Operand.tmp 125))]
    [1, 5, 14, 15, 125, 126, 127])
  (Stmt.seq (Stmt.cond (Operand.tmp 127) Stmt.skip (Stmt.exit 12)) (Stmt.join S55_12 S55_13 [14] [1, 5, 15, 125, 126]))
def S55_0 : Stmt :=
  Stmt.seq
  (Stmt.region
    [SOper.mk (some 1) none (SOp.box true 57 (Operand.tmp 0)),
      SOper.mk (some 2) none (SOp.mv (Operand.const (Value.slice none 0 0))),
      SOper.mk (some 3) none (SOp.mv (Operand.const (Value.int IntKind.i64 0)))]
    [1])
  (Stmt.seq
    (Stmt.seq
      (Stmt.region
        [SOper.mk (some 19) none (SOp.load true 4 (Operand.tmp 1)),
          SOper.mk (some 20) none (SOp.call (Operand.func 112) [Operand.tmp 19]),
          SOper.mk (some 4) none (SOp.mv (Operand.tmp 20))]
        [1, 4])
      (Stmt.seq
        (Stmt.region
          [SOper.mk (some 21) none (SOp.mv (Operand.tmp 4)),
            SOper.mk (some 22) none (SOp.ibin BinOp.neq (Operand.tmp 21) (Operand.const (Value.int IntKind.i64 0)))]
          [1, 4, 22])
        (Stmt.cond (Operand.tmp 22)
          (Stmt.seq
            (Stmt.region
              [SOper.mk (some 23) none (SOp.mv (Operand.tmp 4)),
                SOper.mk (some 2) none (SOp.mv (Operand.const (Value.slice none 0 0))),
                SOper.mk (some 3) none (SOp.mv (Operand.tmp 23))]
              [2, 3])
            Stmt.ret)
          Stmt.skip)))
    (Stmt.seq
      (Stmt.region
        [SOper.mk (some 24) none (SOp.fld 1 (Operand.tmp 1)),
          SOper.mk (some 25) none (SOp.load false 1 (Operand.tmp 24)),
          SOper.mk (some 26) none (SOp.mk 22 1 24 (Value.slice none 0 0) (Operand.tmp 25) (Operand.tmp 25)),
          SOper.mk (some 5) none (SOp.mv (Operand.tmp 26))]
        [1, 5])
      (Stmt.seq
        (Stmt.seq
          (Stmt.region
            [SOper.mk (some 27) none (SOp.mv (Operand.tmp 5)), SOper.mk (some 28) none (SOp.len false (Operand.tmp 27)),
              SOper.mk (some 29) none (SOp.mv (Operand.const (Value.int IntKind.i64 0)))]
            [1, 5, 28, 29])
          (Stmt.block 0 (Stmt.loop S55_1 [29] [1, 5, 28])))
        (Stmt.seq
          (Stmt.seq
            (Stmt.region
              [SOper.mk (some 45) none (SOp.fld 3 (Operand.tmp 1)),
                SOper.mk (some 46) none (SOp.load false 1 (Operand.tmp 45)),
                SOper.mk (some 47) none (SOp.len false (Operand.tmp 46)),
                SOper.mk (some 48) none (SOp.mv (Operand.const (Value.int IntKind.i64 0)))]
              [1, 5, 46, 47, 48])
            (Stmt.block 2 (Stmt.loop S55_5 [48] [1, 5, 46, 47])))
          (Stmt.seq
            (Stmt.seq
              (Stmt.region
                [SOper.mk (some 72) none (SOp.mv (Operand.tmp 5)),
                  SOper.mk (some 73) none (SOp.len false (Operand.tmp 72)),
                  SOper.mk (some 74) none (SOp.mv (Operand.const (Value.int IntKind.i64 0)))]
                [1, 5, 73, 74])
              (Stmt.block 6 (Stmt.loop S55_8 [74] [1, 5, 73])))
            (Stmt.seq (Stmt.region [SOper.mk (some 14) none (SOp.mv (Operand.const (Value.slice none 0 0)))] [1, 5, 14])
              (Stmt.seq
                (Stmt.region
                  [SOper.mk (some 121) none (SOp.fld 1 (Operand.tmp 1)),
                    SOper.mk (some 122) none (SOp.load false 1 (Operand.tmp 121)),
                    SOper.mk (some 123) none (SOp.mk 4 1 1 (Value.bool false) (Operand.tmp 122) (Operand.tmp 122)),
                    SOper.mk (some 15) none (SOp.mv (Operand.tmp 123))]
                  [1, 5, 14, 15])
                (Stmt.seq
                  (Stmt.seq
                    (Stmt.region
                      [SOper.mk (some 124) none (SOp.mv (Operand.tmp 5)),
                        SOper.mk (some 125) none (SOp.len false (Operand.tmp 124)),
                        SOper.mk (some 126) none (SOp.mv (Operand.const (Value.int IntKind.i64 0)))]
                      [1, 5, 14, 15, 125, 126])
                    (Stmt.block 12 (Stmt.loop S55_14 [14, 126] [1, 5, 15, 125])))
                  (Stmt.seq
                    (Stmt.region
                      [SOper.mk (some 175) none (SOp.mv (Operand.tmp 14)),
                        SOper.mk (some 2) none (SOp.mv (Operand.tmp 175)),
                        SOper.mk (some 3) none (SOp.mv (Operand.const (Value.int IntKind.i64 0)))]
                      [2, 3])
                    Stmt.ret)))))))))
def S55 : FnS := ⟨176, [(2, none), (3, none)], S55_0⟩
theorem tr55 : trFn Try.prog 55 [1, 8, 10, 17] [[1], [1, 4], [1, 4, 22], [2, 3], [1, 5], [1, 5, 28, 29], [29], [1, 5, 28], [1, 5, 28, 29, 30], [1, 5, 6, 28, 29], [1, 5, 6, 28, 29], [1, 5, 28, 29], [1, 5, 28, 29], [1, 5, 46, 47, 48], [48], [1, 5, 46, 47], [1, 5, 46, 47, 48, 49], [1, 5, 8, 46, 47, 48], [1, 5, 8, 46, 47, 48, 53, 54, 55], [55], [1, 5, 8, 46, 47, 48, 53, 54], [1, 5, 8, 46, 47, 48, 53, 54, 55, 56], [], [1, 5, 8, 46, 47, 48, 53, 54, 55], [1, 5, 8, 10, 46, 47, 48, 53, 54, 55], [1, 5, 8, 10, 46, 47, 48, 53, 54, 55, 61], [1, 5, 8, 46, 47, 48, 53, 54, 55], [0, 1, 2, 3, 4, 5, 6, 7, 8], [], [], [], [1], [0, 1, 2], [0, 1, 2, 3], [], [5], [0, 1, 2, 3, 4, 5, 6], [0, 1, 2, 3, 4, 5, 6, 7], [1, 5, 8, 46, 47, 48, 53, 54, 55], [1, 5, 46, 47, 48], [1, 5, 73, 74], [74], [1, 5, 73], [1, 5, 73, 74, 75], [1, 5, 11, 73, 74], [1, 5, 11, 73, 74, 78, 79], [79], [1, 5, 11, 73, 74, 78], [1, 5, 11, 73, 74, 78, 79, 80], [1, 5, 11, 12, 73, 74, 78, 79], [1, 5, 11, 12, 73, 74, 78, 79, 83, 84], [84], [1, 5, 11, 12, 73, 74, 78, 79, 83], [1, 5, 11, 12, 73, 74, 78, 79, 83, 84, 85], [1, 5, 11, 12, 13, 73, 74, 78, 79, 83, 84], [1, 5, 11, 12, 73, 74, 78, 79, 83, 84], [0, 1, 2, 3, 4, 5, 6, 7, 8, 9, 10, 11, 12, 13, 14, 15, 16, 17, 18, 19, 20, 21, 22, 23, 24, 25, 26, 27, 28, 29, 30, 31], [], [], [], [0, 1], [0, 1, 2], [], [], [], [5, 6], [5, 6, 7], [], [5, 6, 7, 8, 9], [5, 6, 7, 8, 9, 10], [5, 6, 7, 8, 9, 10, 11], [5, 6, 7, 8, 9, 10, 11, 12], [5, 6, 7, 8, 9, 10, 11, 12], [5, 6, 7, 8, 9, 10, 11, 12, 13, 14], [5, 6, 7, 8, 9, 10, 11, 12, 13, 14, 15], [5, 6, 7, 8, 9, 10, 11, 12], [5, 6, 7, 8, 9, 10, 11, 12, 13, 14, 15, 16, 17], [5, 6, 7, 8, 9, 10, 11, 12, 13, 14, 15, 16, 17, 18], [5, 6, 7, 8, 9, 10, 11, 12, 13, 14, 15, 16, 17, 18, 19], [5, 6, 7, 8, 9, 10, 11, 12, 13, 14, 15, 16, 17, 18, 19, 20], [5, 6, 7, 8, 9, 10, 11, 12, 13, 14, 15, 16, 17, 18, 19, 20], [5, 6, 7, 8, 9, 10, 11, 12, 13, 14, 15, 16, 17, 18, 19, 20, 21, 22], [5, 6, 7, 8, 9, 10, 11, 12, 13, 14, 15, 16, 17, 18, 19, 20, 21, 22, 23], [5, 6, 7, 8, 9, 10, 11, 12, 13, 14, 15, 16, 17, 18, 19, 20], [5, 6, 7, 8, 9, 10, 11, 12, 13, 14, 15, 16, 17, 18, 19, 20, 21, 22, 23, 24, 25], [5, 6, 7, 8, 9, 10, 11, 12, 13, 14, 15, 16, 17, 18, 19, 20, 21, 22, 23, 24, 25, 26], [5, 6, 7, 8, 9, 10, 11, 12, 13, 14, 15, 16, 17, 18, 19, 20, 21, 22, 23, 24, 25, 26, 27], [5, 6, 7, 8, 9, 10, 11, 12, 13, 14, 15, 16, 17, 18, 19, 20, 21, 22, 23, 24, 25, 26, 27, 28], [0, 1, 2, 3, 4, 5, 6, 7, 8, 9, 10, 11, 12, 13, 14, 15, 16, 17, 18, 19, 20, 21, 22, 23, 24, 25, 26, 27, 28, 29], [0, 1, 2, 3, 4, 5, 6, 7, 8, 9, 10, 11, 12, 13, 14, 15, 16, 17, 18, 19, 20, 21, 22, 23, 24, 25, 26, 27, 28, 29, 30], [1, 5, 11, 12, 73, 74, 78, 79, 83, 84], [1, 5, 11, 73, 74, 78, 79], [1, 5, 73, 74], [1, 5, 14], [1, 5, 14, 15], [1, 5, 14, 15, 125, 126], [14, 126], [1, 5, 15, 125], [1, 5, 14, 15, 125, 126, 127], [14], [1, 5, 15, 125, 126], [1, 5, 14, 15, 16, 125, 126], [1, 5, 14, 15, 16, 125, 126, 132], [1, 5, 14, 15, 16, 17, 125, 126], [1, 5, 14, 15, 16, 17, 125, 126, 135, 136], [17, 136], [1, 5, 14, 15, 16, 125, 126, 135], [1, 5, 14, 15, 16, 17, 125, 126, 135, 136, 137], [17], [1, 5, 14, 15, 16, 125, 126, 135, 136], [1, 5, 14, 15, 16, 17, 18, 125, 126, 135, 136], [1, 5, 14, 15, 16, 17, 18, 125, 126, 135, 136, 154], [1, 5, 14, 15, 16, 17, 18, 125, 126, 135, 136], [1, 5, 14, 15, 16, 17, 125, 126, 135, 136], [1, 5, 14, 15, 16, 17, 125, 126, 135, 136], [1, 5, 14, 15, 17, 125, 126], [1, 5, 14, 15, 125, 126], [1, 5, 14, 15, 125, 126], [2, 3]] = some S55 := by kernel_rfl
end Go.Proofs.Ytniobbepliknmaa.V
/- Components of a grammar: approx.Components walked; no condition. -/
namespace Go.Proofs.Ytniobbepliknmaa.V
open Go
set_option linter.unusedVariables false
set_option linter.unusedSimpArgs false
attribute [local go_sem] e_seq e_region e_quiet e_join e_loop e_cond e_block e_exit e_ret e_skip e_fin e_kseq e_snrm e_sret e_sex e_bnrm e_bret e_bex e_rnrm e_rret e_res e_condC e_nil e_g e_mv g_mv e_pick g_pick pickC_eq e_ibin g_ibin ibinC_eq e_sbin g_sbin e_beq g_beq beqC_eq e_nilq g_nilq nilqC_sl nilqC_pt nilqC_mp e_un g_un unC_not unC_neg e_conv g_conv convC_eq e_fld g_fld fldC_ref fldC_ptr e_nilCheck g_nilCheck nilCheckC_ref nilCheckC_ptr nilCheckC_fun e_field g_field fieldC_eq e_len g_len lenC_sl lenC_str e_extract g_extract extractC_eq e_mkFunc e_build g_build e_idiv g_idiv idivC_eq e_ishift g_ishift ishiftC_eq e_idx g_idx e_idxA g_idxA e_load g_load loadC_ref loadC_ptr loadB_eq e_slc g_slc e_box boxC_loc boxC_esc e_alloc allocC_loc allocC_esc e_buildS e_store storeC_ref storeC_ptr storeB_eq e_append e_appz e_mk mkC_eq e_call callC_eq e_fn g_fn fnC_eq fnV_min' fnV_max' fnV_rune' e_q g_q e_a e_n g_call g_box g_alloc g_buildS g_store g_append g_mk g_a g_n g_dead e_dead e_callK e_drawn e_tree e_finJ e_tk e_tfin e_tno e_nbt_q e_nbt_qn e_nbt_a e_nbt_an e_nbt_fin e_early_nil e_early_t e_early_f e_nob_nil e_nob_none e_nob_some isBox_dead isBox_v isBox_ref e_dnil e_dk e_ek e_finB vcOps_vc1 e_dcons e_tq e_ekt e_tearly e_talt e_dearly look_nil look_c proj_nil proj_c looks_nil looks_c zip_nil zip_c val_tmp val_const val_func slv_v slv_box slv_ref slot_tmp slot_const slot_func slotL_v slotL_box slotL_ref put_some put_none updBox_c boxSet_box gd_eq slotVals_nil slotVals_c slotVals_b boxV_box boxOn_box slotsOn_nil slotsOn_c slotsOn_b resV_one resV_two vals_nil vals_c allOn_nil allOn_c partOn_nil partOn_c partVals_nil partVals_c fits_nil fits_c fillL_nil fillL_c mkv_one mkv_agg cellsV_agg cellsV_int cellsV_bool cellsV_slice cellsV_string cellsV_pointer cellsV_func cellsV_nilf cellsV_map one'_nil one'_c oc_int oc_bool oc_slice oc_string oc_pointer oc_func oc_nilf oc_map setC_eq iv_add iv_sub iv_mul iv_eql iv_neq iv_lss iv_leq iv_gtr iv_geq iok_add iok_sub iok_mul iok_eql iok_neq iok_lss iok_leq iok_gtr iok_geq pickV_bool args0_nil args0_c bnd_none bnd_some imp_bt imp_bf imp_ebt imp_ebf imp_eb1 imp_np imp_pp beq_tt beq_tf beq_ft beq_ff cond_or cond_and e_round e_meet Int.le_refl Int.toNat_zero decide_true decide_false Bool.or_false Bool.false_or Bool.true_or Bool.or_true Bool.and_false Bool.false_and Bool.bne_false Bool.bne_true beq_iff_eq Int.cast_ofNat_Int not_false_eq_true not_true_eq_false false_and and_false false_implies true_implies true_and and_true Bool.true_and Bool.and_true Bool.not_true Bool.not_false forall_const implies_true List.take_zero List.drop_zero List.take_succ_cons List.drop_succ_cons List.take_nil List.drop_nil List.length_cons List.length_nil List.nil_append List.append_nil List.cons_append Int.toNat_natCast decide_eq_true_eq decide_eq_false_iff_not cond_true cond_false and_self List.getElem?_cons_zero List.getElem?_cons_succ List.set_cons_zero List.set_cons_succ Option.some.injEq exists_eq_left' Nat.zero_add Nat.add_zero Nat.mul_one imp_self true_or or_true or_false false_or Bool.or_eq_true Bool.or_eq_false_iff Bool.and_eq_true Bool.and_eq_false_iff Bool.not_eq_true' Bool.not_eq_false'

/-- rows[i] = make(..), and the row is looked at at once -/
theorem s_storeGc {P : Program} {Γr : Ctx} {r : List SOper} {φ : Fr} {Γ : Ctx} {K : Fr → Ctx → Prop} {α : Type} [Sc α] {g : PH} {b i ix k n : Nat} {T e : TypeId} {rows : List (List α)} (xs : List α) (hn : n = xs.length) (hg : Γ[ix]? = some g) (h : Grid g b T e rows) (hi : i < rows.length) (hl : xs.length ≤ 1000000)
    (hk : ∀ g', (∀ Γ : Ctx, g' ∈ Γ → Cells Γ b i [.slice (some ⟨k, 0, none⟩) n n]) → (∀ x2 G, Arr x2 k e xs → Disj x2 g' → Mem.le (lk [x2, g']) (lk [G]) → Grid G b T e (rows.set i xs)) → vcOps P Γr r φ (Γ.set ix g') K) : storeP P Γr r φ Γ K 1 b i (.slice (some ⟨k, 0, none⟩) n n) := by
  subst hn
  obtain ⟨ps, hB, hr⟩ := id h
  have hi' : i < ps.length := by subst hr; simpa using hi
  refine ⟨ix, g, _, T, hg, hB.out, by simp; omega, ?_⟩
  refine hk _ (fun Γ hg => ⟨_, hg, _, _, _, upd_self _ _ _, fun j hj => ?_⟩) fun x2 G hA hd hG => h.put hi k xs hl hB.out hA hd hG
  have : j = 0 := by simp at hj; exact hj
  subst this
  have h1 : (List.take i (List.map gcell ps)).length = i := by simp; omega
  simp [setC, cellsV, Value.cells, List.getElem?_append, h1]
def unit (n a : Nat) : List Bool := (List.replicate n false).set a true
/-- the first rows are made -/
def Begun (n k : Nat) (rows : List (List Bool)) : Prop := rows.length = n ∧ ∀ i, i < n → rows[i]? = some (if i < k then unit n i else [])
theorem begun_zero (n : Nat) : Begun n 0 (List.replicate n []) := ⟨by simp, fun i hi => by simp [hi]⟩
theorem Begun.next {n k : Nat} {rows : List (List Bool)} (h : Begun n k rows) (hk : k < n) : Begun n (k + 1) (rows.set k (unit n k)) := by
  refine ⟨by simp [h.1], fun i hi => ?_⟩
  rw [List.getElem?_set]
  by_cases e : k = i
  · subst e; simp [h.1, hk]
  · rw [if_neg e, h.2 i hi]
    have : (i < k + 1) = (i < k) := by rw [eq_iff_iff]; omega
    simp only [this]
theorem Begun.sq {n : Nat} {rows : List (List Bool)} (h : Begun n n rows) : Sq n rows ∧ ∀ x y, mat rows x y = true ↔ x = y ∧ x < n := by
  have hr : ∀ i, i < n → rows[i]? = some (unit n i) := fun i hi => by rw [h.2 i hi, if_pos hi]
  refine ⟨⟨h.1, fun r hr' => ?_⟩, fun x y => ?_⟩
  · obtain ⟨i, hi⟩ := List.getElem?_of_mem hr'
    have hi' : i < n := by have := (List.getElem?_eq_some_iff.1 hi).1; rw [h.1] at this; exact this
    rw [hr i hi'] at hi
    cases hi
    simp [unit]
  · unfold mat
    simp only [List.getD_eq_getElem?_getD]
    rcases Nat.lt_or_ge x n with hx | hx
    · rw [hr x hx]
      simp only [Option.getD_some, unit, List.getElem?_set, List.length_replicate]
      by_cases e : x = y
      · subst e; simp [hx]
      · simp only [e, if_false, List.getElem?_replicate, false_and]
        split <;> simp
    · rw [List.getElem?_eq_none (show rows.length ≤ x by rw [h.1]; exact hx)]
      simp
      omega
theorem mset2_eq {n : Nat} {w : List (List Bool)} (h : Sq n w) {b c : Nat} (hb : b < w.length) (v : Bool) : mset2 w b c v = w.set b (w[b].set c v) := by
  simp [mset2, hb]
theorem pathK_cong {E F : Nat → Nat → Prop} (h : ∀ x y, E x y → F x y) {n a b : Nat} (hp : PathK E n a b) : PathK F n a b := by
  induction hp with
  | one e => exact .one (h _ _ e)
  | trans _ hm _ ih1 ih2 => exact .trans ih1 hm ih2
theorem ent_emp (Γ : Ctx) : Ent Γ (V.emp :: Γ) := by
  refine ⟨fun h hh k o hk => ?_, fun ha => List.pairwise_cons.2 ⟨fun x _ k => .inl rfl, ha⟩⟩
  rcases List.mem_cons.1 hh with rfl | hh
  · cases hk
  · exact ⟨h, hh, hk⟩
theorem up_emp {Γ : Ctx} {Φ : Ctx → Prop} (h : Up (V.emp :: Γ) Φ) : Up Γ Φ := fun ha => by
  obtain ⟨Γ', h1, h2⟩ := h ((ent_emp Γ).apart ha)
  exact ⟨Γ', (ent_emp Γ).trans h1, h2⟩
def EdgK (g : Gr) (k : Nat) (x y : Nat) : Prop := ∃ r ∈ g.rs.take k, r.l = (x : Int) ∧ ∃ s ∈ r.r, s.t = false ∧ s.n = (y : Int)
set_option maxHeartbeats 4000000 in
theorem co_components {Γr : Ctx} {g : Gr} {A : Option Addr} {c : Nat} (hx : SlOk (lk Γr) A c g.rs) :
    Ret Try.prog 55 [.agg #[.int .i64 g.ts, .int .i64 g.ns, .int .i64 g.st, .slice A g.rs.length c]] Γr [] (fun v Γ => (ckF g ≠ 0 ∧ Γ = [] ∧ v = .tuple #[.slice none 0 0, .int .i64 (ckF g)]) ∨
      (ckF g = 0 ∧ ∃ go gr v', Γ = [go, gr] ∧ v = .tuple #[v', .int .i64 0] ∧ Bld go (lk [gr]) 91 v' (outL g g.ns.toNat g.ns.toNat))) := by
  generalize hR : (fun (v : Value) (Γ : Ctx) => _ ∨ _) = R
  refine ret_of_vc tr55 (Nat.le_of_ble_eq_true rfl) ?_
  simp -implicitDefEqProofs only [S55, S55_0, go_sem, Nat.reduceBEq, Nat.reduceAdd, Nat.reduceSub, Nat.reduceMul, Nat.reduceLeDiff, reduceCtorEq, ↓reduceIte, Int.reduceLT, Int.reduceLE, Int.reduceEq, Int.reduceNe]
  intro b
  refine CallVC.read (gram_check (g := g) (hx.mono (lk_r _ _))) ?_
  rintro v Γ' ⟨rfl, rfl⟩
  simp -implicitDefEqProofs only [go_sem, Nat.reduceBEq, Nat.reduceAdd, Nat.reduceSub, Nat.reduceMul, Nat.reduceLeDiff, reduceCtorEq, ↓reduceIte, Int.reduceLT, Int.reduceLE, Int.reduceEq, Int.reduceNe]
  refine ⟨fun h => Up.here ?_, fun h0 => ?_⟩
  · subst hR
    exact .inl ⟨h, rfl, rfl⟩
  have V := ckF_ok h0
  have hns := V.ns
  have hvl := V.len
  obtain ⟨n, hn⟩ : ∃ n : Nat, g.ns = n := ⟨g.ns.toNat, by omega⟩
  have hn10 : n ≤ 10 := by omega
  rw [show g.ns.toNat = n by omega] at hR
  rw [hn]
  simp -implicitDefEqProofs only [go_sem, Nat.reduceBEq, Nat.reduceAdd, Nat.reduceSub, Nat.reduceMul, Nat.reduceLeDiff, reduceCtorEq, ↓reduceIte, Int.reduceLT, Int.reduceLE, Int.reduceEq, Int.reduceNe]
  refine ⟨by omega, by omega, fun bW => ?_⟩
  refine s_loop (fun f vs Γ => ∃ (k : Nat) (gW : PH) (rows : List (List Bool)), vs = [.v true (.int .i64 k)] ∧ Γ = [gW] ∧ k + f = n ∧ Grid gW bW 22 4 rows ∧ Begun n k rows) n
    (Up.here ⟨0, _, _, rfl, rfl, by omega, Grid.made (α := Bool) bW 22 4 (m := n) (by omega), begun_zero n⟩) ?_
  rintro f vs Γ ⟨k, gW, rows, rfl, rfl, hkf, hG, hBg⟩
  simp -implicitDefEqProofs only [S55_1, go_sem, Nat.reduceBEq, Nat.reduceAdd, Nat.reduceSub, Nat.reduceMul, Nat.reduceLeDiff, reduceCtorEq, ↓reduceIte, Int.reduceLT, Int.reduceLE, Int.reduceEq, Int.reduceNe]
  refine ⟨fun hlt => ?_, fun hge => ?_⟩
  · have hk : k < n := by omega
    have hrl := hBg.1
    refine ⟨by omega, by omega, fun b2 => ?_⟩
    refine s_idx rfl (by omega) (by omega) ?_
    simp -implicitDefEqProofs only [go_sem, Nat.reduceBEq, Nat.reduceAdd, Nat.reduceSub, Nat.reduceMul, Nat.reduceLeDiff, reduceCtorEq, ↓reduceIte, Int.reduceLT, Int.reduceLE, Int.reduceEq, Int.reduceNe]
    refine s_storeGc (ix := 1) (k := b2) (unit n k) (by simp [unit]) rfl hG (by omega) (by simp [unit]; omega) ?_
    intro g' hcell hput
    simp -implicitDefEqProofs only [go_sem, Nat.reduceBEq, Nat.reduceAdd, Nat.reduceSub, Nat.reduceMul, Nat.reduceLeDiff, reduceCtorEq, ↓reduceIte, Int.reduceLT, Int.reduceLE, Int.reduceEq, Int.reduceNe]
    refine s_idx rfl (by omega) (by omega) ?_
    simp -implicitDefEqProofs only [go_sem, Nat.reduceBEq, Nat.reduceAdd, Nat.reduceSub, Nat.reduceMul, Nat.reduceLeDiff, reduceCtorEq, ↓reduceIte, Int.reduceLT, Int.reduceLE, Int.reduceEq, Int.reduceNe]
    refine s_ld0 (hcell _ (by simp)) (by simp) (by simp) ?_
    simp -implicitDefEqProofs only [go_sem, Nat.reduceBEq, Nat.reduceAdd, Nat.reduceSub, Nat.reduceMul, Nat.reduceLeDiff, reduceCtorEq, ↓reduceIte, Int.reduceLT, Int.reduceLE, Int.reduceEq, Int.reduceNe]
    refine s_idx rfl (by omega) (by omega) ?_
    simp -implicitDefEqProofs only [go_sem, Nat.reduceBEq, Nat.reduceAdd, Nat.reduceSub, Nat.reduceMul, Nat.reduceLeDiff, reduceCtorEq, ↓reduceIte, Int.reduceLT, Int.reduceLE, Int.reduceEq, Int.reduceNe]
    refine s_storeA (ix := 0) (α := Bool) true rfl (Arr.made false b2 4 n) (i := k) (by simpa using hk) ?_
    intro x2 hA2 _
    simp -implicitDefEqProofs only [go_sem, Nat.reduceBEq, Nat.reduceAdd, Nat.reduceSub, Nat.reduceMul, Nat.reduceLeDiff, reduceCtorEq, ↓reduceIte, Int.reduceLT, Int.reduceLE, Int.reduceEq, Int.reduceNe]
    simp (disch := omega) only [wrap_id]
    refine ⟨f - 1, by omega, Up.apart fun hd => Up.one fun G hG' => ⟨k + 1, _, _, rfl, rfl, by omega, hput _ _ hA2 ((List.pairwise_cons.1 hd).1 g' (by simp)) hG', hBg.next hk⟩⟩
  have hk : k = n := by omega
  rw [hk] at hBg
  obtain ⟨hS0, hm0⟩ := hBg.sq
  refine s_loop (fun f vs Γ => ∃ (k : Nat) (gW : PH) (W : List (List Bool)), vs = [.v true (.int .i64 k)] ∧ Γ = [gW] ∧ k + f = g.rs.length ∧ Grid gW bW 22 4 W ∧ Sq n W ∧ ∀ x y, mat W x y = true ↔ (x = y ∧ x < n) ∨ EdgK g k x y) g.rs.length
    (Up.here ⟨0, _, _, rfl, rfl, by omega, hG, hS0, fun x y => by rw [hm0]; simp [EdgK]⟩) ?_
  clear hG hm0 hS0 hBg
  rintro f vs Γ ⟨k, gW, W, rfl, rfl, hkf, hG, hS, hm⟩
  simp -implicitDefEqProofs only [S55_5, go_sem, Nat.reduceBEq, Nat.reduceAdd, Nat.reduceSub, Nat.reduceMul, Nat.reduceLeDiff, reduceCtorEq, ↓reduceIte, Int.reduceLT, Int.reduceLE, Int.reduceEq, Int.reduceNe]
  refine ⟨fun hlt => ?_, fun hge => ?_⟩
  · have hk : k < g.rs.length := by omega
    have hmem : g.rs[k] ∈ g.rs := List.getElem_mem hk
    have hr4 := V.right _ hmem
    have hleft := V.left _ hmem
    have hsym := V.sym _ hmem
    have htk : g.rs.take (k + 1) = g.rs.take k ++ [g.rs[k]] := List.take_succ_eq_append_getElem hk
    obtain ⟨b1, o1, hA2, A3, c3, hr3, hc3⟩ := hx.ru hk
    generalize g.rs[k] = r at *
    obtain ⟨rl, hml⟩ : ∃ m : Nat, r.l = m := ⟨r.l.toNat, by omega⟩
    have hrl : rl < n := by omega
    refine s_idx hA2 (by omega) (by omega) ?_
    simp -implicitDefEqProofs only [go_sem, Nat.reduceBEq, Nat.reduceAdd, Nat.reduceSub, Nat.reduceMul, Nat.reduceLeDiff, reduceCtorEq, ↓reduceIte, Int.reduceLT, Int.reduceLE, Int.reduceEq, Int.reduceNe]
    refine s_ld0 (hc3 _ (lk_r _ _)) (by simp) (by simp) ?_
    simp -implicitDefEqProofs only [go_sem, Nat.reduceBEq, Nat.reduceAdd, Nat.reduceSub, Nat.reduceMul, Nat.reduceLeDiff, reduceCtorEq, ↓reduceIte, Int.reduceLT, Int.reduceLE, Int.reduceEq, Int.reduceNe]
    intro b2
    refine s_loop (fun f2 vs Γ => ∃ (j : Nat) (gW : PH) (W2 : List (List Bool)), vs = [.v true (.int .i64 j)] ∧ Γ = [gW] ∧ j + f2 = r.r.length ∧ Grid gW bW 22 4 W2 ∧ Sq n W2 ∧ ∀ x y, mat W2 x y = true ↔ mat W x y = true ∨ (rl = x ∧ ∃ s ∈ r.r.take j, s.t = false ∧ s.n = (y : Int))) r.r.length
      (Up.here ⟨0, _, _, rfl, rfl, by omega, hG, hS, fun x y => by simp⟩) ?_
    clear hG
    rintro f2 vs Γ ⟨j, gW, W2, rfl, rfl, hjf, hG, hS2, hm2⟩
    simp -implicitDefEqProofs only [S55_4, go_sem, Nat.reduceBEq, Nat.reduceAdd, Nat.reduceSub, Nat.reduceMul, Nat.reduceLeDiff, reduceCtorEq, ↓reduceIte, Int.reduceLT, Int.reduceLE, Int.reduceEq, Int.reduceNe]
    refine ⟨fun hlt => ?_, fun hge => ?_⟩
    · have hj : j < r.r.length := by omega
      have hs := hsym _ (List.getElem_mem hj)
      have htk2 : r.r.take (j + 1) = r.r.take j ++ [r.r[j]] := List.take_succ_eq_append_getElem hj
      obtain ⟨b3, o3, hA4, hc5⟩ := hr3.sy hj
      generalize r.r[j] = s at *
      refine s_split ?_
      simp -implicitDefEqProofs only [S55_2, S55_3, go_sem, Nat.reduceBEq, Nat.reduceAdd, Nat.reduceSub, Nat.reduceMul, Nat.reduceLeDiff, reduceCtorEq, ↓reduceIte, Int.reduceLT, Int.reduceLE, Int.reduceEq, Int.reduceNe]
      refine s_idx hA4 (by omega) (by omega) ?_
      simp -implicitDefEqProofs only [go_sem, Nat.reduceBEq, Nat.reduceAdd, Nat.reduceSub, Nat.reduceMul, Nat.reduceLeDiff, reduceCtorEq, ↓reduceIte, Int.reduceLT, Int.reduceLE, Int.reduceEq, Int.reduceNe]
      refine s_ld0 (hc5 _ (lk_r _ _)) (by simp) (by simp) ?_
      simp -implicitDefEqProofs only [go_sem, Nat.reduceBEq, Nat.reduceAdd, Nat.reduceSub, Nat.reduceMul, Nat.reduceLeDiff, reduceCtorEq, ↓reduceIte, Int.reduceLT, Int.reduceLE, Int.reduceEq, Int.reduceNe]
      intro b4
      refine ⟨fun hst => ?_, fun hst => Up.here ?_⟩
      · have hsn2 := hs.2.2 hst
        obtain ⟨sn, hsne⟩ : ∃ m : Nat, s.n = m := ⟨s.n.toNat, by omega⟩
        have hsn : sn < n := by omega
        have hlW := hS2.len
        have hrW := hS2.at' (b := rl) (by omega)
        obtain ⟨kb, hcell, hArr, hput⟩ := hG.at' (i := rl) (by omega) (by omega)
        rw [hsne, hml]
        refine s_idx rfl (by omega) (by omega) ?_
        simp -implicitDefEqProofs only [go_sem, Nat.reduceBEq, Nat.reduceAdd, Nat.reduceSub, Nat.reduceMul, Nat.reduceLeDiff, reduceCtorEq, ↓reduceIte, Int.reduceLT, Int.reduceLE, Int.reduceEq, Int.reduceNe]
        refine s_ld0 (hcell _ (by simp)) (by simp) (by simp) ?_
        simp -implicitDefEqProofs only [go_sem, Nat.reduceBEq, Nat.reduceAdd, Nat.reduceSub, Nat.reduceMul, Nat.reduceLeDiff, reduceCtorEq, ↓reduceIte, Int.reduceLT, Int.reduceLE, Int.reduceEq, Int.reduceNe]
        refine s_idx rfl (by omega) (by omega) ?_
        simp -implicitDefEqProofs only [go_sem, Nat.reduceBEq, Nat.reduceAdd, Nat.reduceSub, Nat.reduceMul, Nat.reduceLeDiff, reduceCtorEq, ↓reduceIte, Int.reduceLT, Int.reduceLE, Int.reduceEq, Int.reduceNe]
        refine s_storeA (ix := 0) (α := Bool) true rfl hArr (i := sn) (by omega) ?_
        intro g9 hA9 ho9
        have hG9 := hput g9 _ hA9 (by simp) ho9
        rw [← mset2_eq hS2 (by omega)] at hG9
        simp -implicitDefEqProofs only [go_sem, Nat.reduceBEq, Nat.reduceAdd, Nat.reduceSub, Nat.reduceMul, Nat.reduceLeDiff, reduceCtorEq, ↓reduceIte, Int.reduceLT, Int.reduceLE, Int.reduceEq, Int.reduceNe]
        simp (disch := omega) only [wrap_id]
        refine Up.here ⟨f2 - 1, by omega, Up.here ⟨j + 1, _, _, rfl, rfl, by omega, hG9, hS2.set _ _ _, fun x y => ?_⟩⟩
        rw [mat_set hS2 true hrl hsn, htk2]
        split
        · rename_i e
          obtain ⟨rfl, rfl⟩ := e
          exact ⟨fun _ => .inr ⟨rfl, s, by simp, hst, hsne⟩, fun _ => rfl⟩
        · rename_i e
          rw [hm2]
          refine or_congr_right (and_congr_right fun h0 => ⟨fun ⟨s', h1, h2⟩ => ⟨s', by simp [h1], h2⟩, fun ⟨s', h1, h2, h3⟩ => ⟨s', ?_, h2, h3⟩⟩)
          rcases List.mem_append.1 h1 with q | q
          · exact q
          · simp at q
            subst q
            exact absurd ⟨h0.symm, by omega⟩ e
      · simp (disch := omega) only [wrap_id]
        refine ⟨f2 - 1, by omega, Up.here ⟨j + 1, _, _, rfl, rfl, by omega, hG, hS2, fun x y => ?_⟩⟩
        rw [hm2, htk2]
        simp [hst]
    · have hj : j = r.r.length := by omega
      rw [hj, List.take_length] at hm2
      simp (disch := omega) only [wrap_id]
      refine ⟨f - 1, by omega, Up.here ⟨k + 1, _, _, rfl, rfl, by omega, hG, hS2, fun x y => ?_⟩⟩
      rw [hm2, hm, or_assoc]
      refine or_congr_right ?_
      unfold EdgK
      rw [htk]
      simp only [List.mem_append, List.mem_singleton, or_and_right, exists_or, exists_eq_left, hml, Int.natCast_inj]
  have hk : k = g.rs.length := by omega
  rw [hk] at hm
  have hmW : ∀ x y, mat W x y = true ↔ Way0 g n x y := fun x y => by rw [hm]; simp [Way0, EdgK, Edg]
  refine s_loop (fun f vs Γ => ∃ (a : Nat) (gW : PH), vs = [.v true (.int .i64 a)] ∧ Γ = [gW] ∧ a + f = n ∧ Grid gW bW 22 4 (wN W n (a * n * n))) n (Up.here ⟨0, _, rfl, rfl, by omega, by simpa [wN] using hG⟩) ?_
  clear hG
  rintro f vs Γ ⟨a, gW2, rfl, rfl, haf, hWg2⟩
  simp -implicitDefEqProofs only [S55_8, go_sem, Nat.reduceBEq, Nat.reduceAdd, Nat.reduceSub, Nat.reduceMul, Nat.reduceLeDiff, reduceCtorEq, ↓reduceIte, Int.reduceLT, Int.reduceLE, Int.reduceEq, Int.reduceNe]
  refine ⟨fun hlt => ?_, fun hge => ?_⟩
  · have ha : a < n := by omega
    refine s_loop (fun f2 vs Γ => ∃ (b : Nat) (gW : PH), vs = [.v true (.int .i64 b)] ∧ Γ = [gW] ∧ b + f2 = n ∧ Grid gW bW 22 4 (wN W n ((a * n + b) * n))) n (Up.here ⟨0, _, rfl, rfl, by omega, by simpa using hWg2⟩) ?_
    rintro f2 vs Γ ⟨b', gW3, rfl, rfl, hbf, hWg3⟩
    simp -implicitDefEqProofs only [S55_7, go_sem, Nat.reduceBEq, Nat.reduceAdd, Nat.reduceSub, Nat.reduceMul, Nat.reduceLeDiff, reduceCtorEq, ↓reduceIte, Int.reduceLT, Int.reduceLE, Int.reduceEq, Int.reduceNe]
    refine ⟨fun hlt => ?_, fun hge => ?_⟩
    · have hb : b' < n := by omega
      refine s_loop (fun f3 vs Γ => ∃ (c : Nat) (gW : PH), vs = [.v true (.int .i64 c)] ∧ Γ = [gW] ∧ c + f3 = n ∧ Grid gW bW 22 4 (wN W n ((a * n + b') * n + c))) n (Up.here ⟨0, _, rfl, rfl, by omega, by simpa using hWg3⟩) ?_
      rintro f3 vs Γ ⟨c', gW4, rfl, rfl, hcf, hWg4⟩
      simp -implicitDefEqProofs only [S55_6, go_sem, Nat.reduceBEq, Nat.reduceAdd, Nat.reduceSub, Nat.reduceMul, Nat.reduceLeDiff, reduceCtorEq, ↓reduceIte, Int.reduceLT, Int.reduceLE, Int.reduceEq, Int.reduceNe]
      refine ⟨fun hlt => ?_, fun hge => ?_⟩
      · have hc : c' < n := by omega
        have hnext := wN_step W (a := a) hb hc
        have hsq := wN_sq hS ((a * n + b') * n + c')
        generalize wN W n ((a * n + b') * n + c') = Q at *
        have hlQ := hsq.len
        have hrb := hsq.at' (b := b') (by omega)
        have hra := hsq.at' (b := a) (by omega)
        obtain ⟨kb, hcb, hAb, hput⟩ := hWg4.at' (i := b') (by omega) (by omega)
        obtain ⟨ka, hca, hAa, _⟩ := hWg4.at' (i := a) (by omega) (by omega)
        have cba : ∀ Γ : Ctx, gW4 ∈ Γ → Cells Γ kb a [.bool Q[b'][a]] := fun Γ h => hAb.bool (by omega) h
        have cac : ∀ Γ : Ctx, gW4 ∈ Γ → Cells Γ ka c' [.bool Q[a][c']] := fun Γ h => hAa.bool (by omega) h
        have m1 : mat Q b' c' = Q[b'][c'] := mat_at (by omega) (by omega)
        have m2 : mat Q b' a = Q[b'][a] := mat_at (by omega) (by omega)
        have m3 : mat Q a c' = Q[a][c'] := mat_at (by omega) (by omega)
        refine s_idx rfl (by omega) (by omega) ?_
        simp -implicitDefEqProofs only [go_sem, Nat.reduceBEq, Nat.reduceAdd, Nat.reduceSub, Nat.reduceMul, Nat.reduceLeDiff, reduceCtorEq, ↓reduceIte, Int.reduceLT, Int.reduceLE, Int.reduceEq, Int.reduceNe]
        refine s_ld0 (hcb _ (by simp)) (by simp) (by simp) ?_
        simp -implicitDefEqProofs only [go_sem, Nat.reduceBEq, Nat.reduceAdd, Nat.reduceSub, Nat.reduceMul, Nat.reduceLeDiff, reduceCtorEq, ↓reduceIte, Int.reduceLT, Int.reduceLE, Int.reduceEq, Int.reduceNe]
        refine s_idx rfl (by omega) (by omega) ?_
        simp -implicitDefEqProofs only [go_sem, Nat.reduceBEq, Nat.reduceAdd, Nat.reduceSub, Nat.reduceMul, Nat.reduceLeDiff, reduceCtorEq, ↓reduceIte, Int.reduceLT, Int.reduceLE, Int.reduceEq, Int.reduceNe]
        refine s_ld0 (hcb _ (by simp)) (by simp) (by simp) ?_
        simp -implicitDefEqProofs only [go_sem, Nat.reduceBEq, Nat.reduceAdd, Nat.reduceSub, Nat.reduceMul, Nat.reduceLeDiff, reduceCtorEq, ↓reduceIte, Int.reduceLT, Int.reduceLE, Int.reduceEq, Int.reduceNe]
        refine s_idx rfl (by omega) (by omega) ?_
        simp -implicitDefEqProofs only [go_sem, Nat.reduceBEq, Nat.reduceAdd, Nat.reduceSub, Nat.reduceMul, Nat.reduceLeDiff, reduceCtorEq, ↓reduceIte, Int.reduceLT, Int.reduceLE, Int.reduceEq, Int.reduceNe]
        refine s_ld0 (hAb.bool (i := c') (by omega) (by simp)) (by simp) (by simp) ?_
        simp -implicitDefEqProofs only [go_sem, Nat.reduceBEq, Nat.reduceAdd, Nat.reduceSub, Nat.reduceMul, Nat.reduceLeDiff, reduceCtorEq, ↓reduceIte, Int.reduceLT, Int.reduceLE, Int.reduceEq, Int.reduceNe]
        refine s_idxg (fun he => ⟨by first | exact he | rfl | simp_all, by first | exact he | rfl | simp_all, rfl, by omega, by omega⟩) ?_
        simp -implicitDefEqProofs only [go_sem, Nat.reduceBEq, Nat.reduceAdd, Nat.reduceSub, Nat.reduceMul, Nat.reduceLeDiff, reduceCtorEq, ↓reduceIte, Int.reduceLT, Int.reduceLE, Int.reduceEq, Int.reduceNe]
        refine s_ldg0 (fun he => by first | exact he | rfl | simp_all) (fun _ => hcb _ (by simp)) (by simp) (by simp) ?_
        simp -implicitDefEqProofs only [go_sem, Nat.reduceBEq, Nat.reduceAdd, Nat.reduceSub, Nat.reduceMul, Nat.reduceLeDiff, reduceCtorEq, ↓reduceIte, Int.reduceLT, Int.reduceLE, Int.reduceEq, Int.reduceNe]
        refine s_idxg (fun he => ⟨by first | exact he | rfl | simp_all, by first | exact he | rfl | simp_all, rfl, by omega, by omega⟩) ?_
        simp -implicitDefEqProofs only [go_sem, Nat.reduceBEq, Nat.reduceAdd, Nat.reduceSub, Nat.reduceMul, Nat.reduceLeDiff, reduceCtorEq, ↓reduceIte, Int.reduceLT, Int.reduceLE, Int.reduceEq, Int.reduceNe]
        refine s_ldg0 (fun he => by first | exact he | rfl | simp_all) (fun _ => cba _ (by simp)) (by simp) (by simp) ?_
        simp -implicitDefEqProofs only [go_sem, Nat.reduceBEq, Nat.reduceAdd, Nat.reduceSub, Nat.reduceMul, Nat.reduceLeDiff, reduceCtorEq, ↓reduceIte, Int.reduceLT, Int.reduceLE, Int.reduceEq, Int.reduceNe]
        refine s_idxg (fun he => ⟨by first | exact he | rfl | simp_all, by first | exact he | rfl | simp_all, rfl, by omega, by omega⟩) ?_
        simp -implicitDefEqProofs only [go_sem, Nat.reduceBEq, Nat.reduceAdd, Nat.reduceSub, Nat.reduceMul, Nat.reduceLeDiff, reduceCtorEq, ↓reduceIte, Int.reduceLT, Int.reduceLE, Int.reduceEq, Int.reduceNe]
        refine s_ldg0 (fun he => by first | exact he | rfl | simp_all) (fun _ => hca _ (by simp)) (by simp) (by simp) ?_
        simp -implicitDefEqProofs only [go_sem, Nat.reduceBEq, Nat.reduceAdd, Nat.reduceSub, Nat.reduceMul, Nat.reduceLeDiff, reduceCtorEq, ↓reduceIte, Int.reduceLT, Int.reduceLE, Int.reduceEq, Int.reduceNe]
        refine s_idxg (fun he => ⟨by first | exact he | rfl | simp_all, by first | exact he | rfl | simp_all, rfl, by omega, by omega⟩) ?_
        simp -implicitDefEqProofs only [go_sem, Nat.reduceBEq, Nat.reduceAdd, Nat.reduceSub, Nat.reduceMul, Nat.reduceLeDiff, reduceCtorEq, ↓reduceIte, Int.reduceLT, Int.reduceLE, Int.reduceEq, Int.reduceNe]
        refine s_ldg0 (fun he => by first | exact he | rfl | simp_all) (fun _ => cac _ (by simp)) (by simp) (by simp) ?_
        simp -implicitDefEqProofs only [go_sem, Nat.reduceBEq, Nat.reduceAdd, Nat.reduceSub, Nat.reduceMul, Nat.reduceLeDiff, reduceCtorEq, ↓reduceIte, Int.reduceLT, Int.reduceLE, Int.reduceEq, Int.reduceNe]
        refine ⟨by intros; simp_all, ?_⟩
        refine s_idx rfl (by omega) (by omega) ?_
        simp -implicitDefEqProofs only [go_sem, Nat.reduceBEq, Nat.reduceAdd, Nat.reduceSub, Nat.reduceMul, Nat.reduceLeDiff, reduceCtorEq, ↓reduceIte, Int.reduceLT, Int.reduceLE, Int.reduceEq, Int.reduceNe]
        refine s_storeA (ix := 0) (α := Bool) _ rfl hAb (i := c') (by omega) ?_
        intro g' hA' ho'
        have hG' := hput g' _ hA' (by simp) ho'
        rw [← mset2_eq hsq (by omega), ← m1, ← m2, ← m3] at hG'
        simp -implicitDefEqProofs only [go_sem, Nat.reduceBEq, Nat.reduceAdd, Nat.reduceSub, Nat.reduceMul, Nat.reduceLeDiff, reduceCtorEq, ↓reduceIte, Int.reduceLT, Int.reduceLE, Int.reduceEq, Int.reduceNe]
        simp (disch := omega) only [wrap_id]
        exact ⟨f3 - 1, by omega, Up.here ⟨c' + 1, _, rfl, rfl, by omega, by rw [← Nat.add_assoc, hnext]; exact hG'⟩⟩
      · have hc : c' = n := by omega
        rw [hc] at hWg4
        simp (disch := omega) only [wrap_id]
        refine ⟨f2 - 1, by omega, Up.here ⟨b' + 1, _, rfl, rfl, by omega, ?_⟩⟩
        rw [show (a * n + (b' + 1)) * n = (a * n + b') * n + n by rw [← Nat.add_assoc, Nat.add_mul _ 1, Nat.one_mul]]
        exact hWg4
    · have hb : b' = n := by omega
      rw [hb] at hWg3
      simp (disch := omega) only [wrap_id]
      refine ⟨f - 1, by omega, Up.here ⟨a + 1, _, rfl, rfl, by omega, ?_⟩⟩
      rw [show (a + 1) * n * n = (a * n + n) * n by rw [Nat.add_mul a 1, Nat.one_mul]]
      exact hWg3
  have ha : a = n := by omega
  rw [ha] at hWg2
  have hQ := wN_sq hS (n * n * n)
  have hQm : ∀ x y, x < n → (mat (wN W n (n * n * n)) x y = true ↔ RT (Edg g) x y) := fun x y hx => by
    rw [wN_iff hS, ← path_rt V hn hx]
    exact ⟨pathK_cong fun x y => (hmW x y).1, pathK_cong fun x y => (hmW x y).2⟩
  generalize wN W n (n * n * n) = Q at *
  clear hS hm hmW
  refine ⟨by omega, by omega, fun bD => ?_⟩
  refine s_loop (fun f vs Γ => ∃ (k : Nat) (go gr gdn gW : PH) (v : Value) (xs : List Bool), vs = [.v true v, .v true (.int .i64 k)] ∧ Γ = [go, gr, gdn, gW] ∧ k + f = n ∧ Bld go (lk [gr]) 91 v (outL g n k) ∧ Arr gdn bD 4 xs ∧ xs.length = n ∧ (∀ x (h : x < xs.length), xs[x] = true ↔ ∃ a, a < k ∧ Mut g a x) ∧ Grid gW bW 22 4 Q) n
    (Up.sel [[], [], [0], [1]] (by decide) fun _ hm => ⟨0, _, _, _, _, _, List.replicate n false, rfl, rfl, by omega, Bld.nil _ _ _, ?_, by simp, fun x h => by simp, hWg2.mono (hm [1] (by simp))⟩) ?_
  · exact lk_one.1 (hm [0] (by simp) _ _ (lk_one.2 (Arr.made false bD 4 n)))
  clear hWg2
  rintro f vs Γ ⟨k, go, gr, gdn, gW, v, xs, rfl, rfl, hkf, hBo, hD, hDl, hDm, hWg⟩
  obtain ⟨Ao, co, rfl⟩ := hBo.val
  simp -implicitDefEqProofs only [S55_14, go_sem, Nat.reduceBEq, Nat.reduceAdd, Nat.reduceSub, Nat.reduceMul, Nat.reduceLeDiff, reduceCtorEq, ↓reduceIte, Int.reduceLT, Int.reduceLE, Int.reduceEq, Int.reduceNe]
  refine ⟨fun hlt => ?_, fun hge => ?_⟩
  · have hk : k < n := by omega
    refine s_split ?_
    simp -implicitDefEqProofs only [S55_12, S55_13, go_sem, Nat.reduceBEq, Nat.reduceAdd, Nat.reduceSub, Nat.reduceMul, Nat.reduceLeDiff, reduceCtorEq, ↓reduceIte, Int.reduceLT, Int.reduceLE, Int.reduceEq, Int.reduceNe]
    refine s_idx rfl (by omega) (by omega) ?_
    simp -implicitDefEqProofs only [go_sem, Nat.reduceBEq, Nat.reduceAdd, Nat.reduceSub, Nat.reduceMul, Nat.reduceLeDiff, reduceCtorEq, ↓reduceIte, Int.reduceLT, Int.reduceLE, Int.reduceEq, Int.reduceNe]
    refine s_ld0 (hD.bool (i := k) (by omega) (by simp)) (by simp) (by simp) ?_
    simp -implicitDefEqProofs only [go_sem, Nat.reduceBEq, Nat.reduceAdd, Nat.reduceSub, Nat.reduceMul, Nat.reduceLeDiff, reduceCtorEq, ↓reduceIte, Int.reduceLT, Int.reduceLE, Int.reduceEq, Int.reduceNe]
    have hDk := hDm k (by omega)
    refine ⟨fun ht => ?_, fun ht => ?_⟩
    · obtain ⟨a, ha1, ha2⟩ := hDk.1 ht
      have hnl : ¬ Lead g k := fun h => h a ha1 ha2
      simp (disch := omega) only [wrap_id]
      refine Up.here ⟨f - 1, by omega, Up.here ⟨k + 1, _, _, _, _, _, xs, rfl, rfl, by omega, by simpa [outL, leadL_not hnl] using hBo, hD, hDl, fun x h => ?_, hWg⟩⟩
      rw [hDm x h]
      refine ⟨fun ⟨a, h1, h2⟩ => ⟨a, by omega, h2⟩, fun ⟨a', h1, h2⟩ => ?_⟩
      by_cases e : a' = k
      · subst e; exact ⟨a, ha1, ha2.trans h2⟩
      · exact ⟨a', by omega, h2⟩
    have hL : Lead g k := fun b hb hM => by rw [hDk.2 ⟨b, hb, hM⟩] at ht; cases ht
    intro bC
    refine s_loop (fun f2 vs Γ => ∃ (j : Nat) (gl go gr gdn gW : PH) (vr : Value) (xs : List Bool), vs = [.box bC 91 [.int .i64 0, vr], .v true (.int .i64 j)] ∧ Γ = [gl, go, gr, gdn, gW] ∧ j + f2 = n ∧ Bld gl (lk []) 3 vr (compL g k j) ∧ Bld go (lk [gr]) 91 (.slice Ao (outL g n k).length co) (outL g n k) ∧ Arr gdn bD 4 xs ∧ xs.length = n ∧ (∀ x (h : x < xs.length), xs[x] = true ↔ (∃ a, a < k ∧ Mut g a x) ∨ (x < j ∧ Mut g k x)) ∧ Grid gW bW 22 4 Q) n
      (up_emp (Up.here ⟨0, _, _, _, _, _, _, xs, rfl, rfl, by omega, Bld.nil _ _ _, hBo, hD, hDl, fun x h => by rw [hDm x h]; simp, hWg⟩)) ?_
    clear hBo hDk ht hDm hD hDl hWg
    rintro f2 vs Γ ⟨j, gl, go, gr, gdn, gW, vr, xs2, rfl, rfl, hjf, hBl, hBo, hD, hDl, hDm, hWg⟩
    obtain ⟨Al, cl, rfl⟩ := hBl.val
    simp -implicitDefEqProofs only [S55_11, go_sem, Nat.reduceBEq, Nat.reduceAdd, Nat.reduceSub, Nat.reduceMul, Nat.reduceLeDiff, reduceCtorEq, ↓reduceIte, Int.reduceLT, Int.reduceLE, Int.reduceEq, Int.reduceNe]
    refine ⟨fun hlt => ?_, fun hge => ?_⟩
    · have hj : j < n := by omega
      have hrk := hQ.at' (b := k) (by rw [hQ.len]; omega)
      have hrj := hQ.at' (b := j) (by rw [hQ.len]; omega)
      have hlQ := hQ.len
      obtain ⟨ka, hca, hAa, _⟩ := hWg.at' (i := k) (by omega) (by omega)
      obtain ⟨kb, hcb, hAb, _⟩ := hWg.at' (i := j) (by omega) (by omega)
      have cac : ∀ Γ : Ctx, gW ∈ Γ → Cells Γ kb k [.bool Q[j][k]] := fun Γ h => hAb.bool (by omega) h
      have hM : Mut g k j ↔ Q[k][j] = true ∧ Q[j][k] = true := by
        rw [← mat_at (by omega) (show j < Q[k].length by omega), ← mat_at (by omega) (show k < Q[j].length by omega), hQm _ _ hk, hQm _ _ hj]
        rfl
      have hcl : (compL g k j).length ≤ j := compL_len
      refine s_split ?_
      simp -implicitDefEqProofs only [S55_9, S55_10, go_sem, Nat.reduceBEq, Nat.reduceAdd, Nat.reduceSub, Nat.reduceMul, Nat.reduceLeDiff, reduceCtorEq, ↓reduceIte, Int.reduceLT, Int.reduceLE, Int.reduceEq, Int.reduceNe]
      refine s_idx rfl (by omega) (by omega) ?_
      simp -implicitDefEqProofs only [go_sem, Nat.reduceBEq, Nat.reduceAdd, Nat.reduceSub, Nat.reduceMul, Nat.reduceLeDiff, reduceCtorEq, ↓reduceIte, Int.reduceLT, Int.reduceLE, Int.reduceEq, Int.reduceNe]
      refine s_ld0 (hca _ (by simp)) (by simp) (by simp) ?_
      simp -implicitDefEqProofs only [go_sem, Nat.reduceBEq, Nat.reduceAdd, Nat.reduceSub, Nat.reduceMul, Nat.reduceLeDiff, reduceCtorEq, ↓reduceIte, Int.reduceLT, Int.reduceLE, Int.reduceEq, Int.reduceNe]
      refine s_idx rfl (by omega) (by omega) ?_
      simp -implicitDefEqProofs only [go_sem, Nat.reduceBEq, Nat.reduceAdd, Nat.reduceSub, Nat.reduceMul, Nat.reduceLeDiff, reduceCtorEq, ↓reduceIte, Int.reduceLT, Int.reduceLE, Int.reduceEq, Int.reduceNe]
      refine s_ld0 (hAa.bool (i := j) (by omega) (by simp)) (by simp) (by simp) ?_
      simp -implicitDefEqProofs only [go_sem, Nat.reduceBEq, Nat.reduceAdd, Nat.reduceSub, Nat.reduceMul, Nat.reduceLeDiff, reduceCtorEq, ↓reduceIte, Int.reduceLT, Int.reduceLE, Int.reduceEq, Int.reduceNe]
      refine s_idxg (fun he => ⟨by first | exact he | rfl | simp_all, by first | exact he | rfl | simp_all, rfl, by omega, by omega⟩) ?_
      simp -implicitDefEqProofs only [go_sem, Nat.reduceBEq, Nat.reduceAdd, Nat.reduceSub, Nat.reduceMul, Nat.reduceLeDiff, reduceCtorEq, ↓reduceIte, Int.reduceLT, Int.reduceLE, Int.reduceEq, Int.reduceNe]
      refine s_ldg0 (fun he => by first | exact he | rfl | simp_all) (fun _ => hcb _ (by simp)) (by simp) (by simp) ?_
      simp -implicitDefEqProofs only [go_sem, Nat.reduceBEq, Nat.reduceAdd, Nat.reduceSub, Nat.reduceMul, Nat.reduceLeDiff, reduceCtorEq, ↓reduceIte, Int.reduceLT, Int.reduceLE, Int.reduceEq, Int.reduceNe]
      refine s_idxg (fun he => ⟨by first | exact he | rfl | simp_all, by first | exact he | rfl | simp_all, rfl, by omega, by omega⟩) ?_
      simp -implicitDefEqProofs only [go_sem, Nat.reduceBEq, Nat.reduceAdd, Nat.reduceSub, Nat.reduceMul, Nat.reduceLeDiff, reduceCtorEq, ↓reduceIte, Int.reduceLT, Int.reduceLE, Int.reduceEq, Int.reduceNe]
      refine s_ldg0 (fun he => by first | exact he | rfl | simp_all) (fun _ => cac _ (by simp)) (by simp) (by simp) ?_
      simp -implicitDefEqProofs only [go_sem, Nat.reduceBEq, Nat.reduceAdd, Nat.reduceSub, Nat.reduceMul, Nat.reduceLeDiff, reduceCtorEq, ↓reduceIte, Int.reduceLT, Int.reduceLE, Int.reduceEq, Int.reduceNe]
      refine ⟨fun h => ?_, fun h => Up.here ?_⟩
      · have hMj : Mut g k j := hM.2 h
        intro b2
        refine s_app1S (ix := 1) (j : Int) rfl hBl cells_one rfl (by omega) (by unfold maxLen; omega) ?_
        intro vl gl' hBl' _
        obtain ⟨Al', cl', rfl⟩ := hBl'.val
        simp -implicitDefEqProofs only [go_sem, Nat.reduceBEq, Nat.reduceAdd, Nat.reduceSub, Nat.reduceMul, Nat.reduceLeDiff, reduceCtorEq, ↓reduceIte, Int.reduceLT, Int.reduceLE, Int.reduceEq, Int.reduceNe]
        refine s_idx rfl (by omega) (by omega) ?_
        simp -implicitDefEqProofs only [go_sem, Nat.reduceBEq, Nat.reduceAdd, Nat.reduceSub, Nat.reduceMul, Nat.reduceLeDiff, reduceCtorEq, ↓reduceIte, Int.reduceLT, Int.reduceLE, Int.reduceEq, Int.reduceNe]
        refine s_storeA (ix := 4) (α := Bool) true rfl hD (i := j) (by omega) ?_
        intro gdn' hD' _
        simp -implicitDefEqProofs only [go_sem, Nat.reduceBEq, Nat.reduceAdd, Nat.reduceSub, Nat.reduceMul, Nat.reduceLeDiff, reduceCtorEq, ↓reduceIte, Int.reduceLT, Int.reduceLE, Int.reduceEq, Int.reduceNe]
        simp (disch := omega) only [wrap_id]
        refine Up.sel [[1], [2], [3], [4], [5]] (by decide) fun _ _ => ⟨f2 - 1, by omega, Up.here ⟨j + 1, _, _, _, _, _, _, xs2.set j true, rfl, rfl, by omega, by rw [compL_add hMj]; exact hBl', hBo, hD', by simpa using hDl, fun x hx => ?_, hWg⟩⟩
        rw [List.length_set] at hx
        rw [List.getElem_set]
        split
        · rename_i e
          subst e
          exact ⟨fun _ => .inr ⟨by omega, hMj⟩, fun _ => rfl⟩
        · rename_i e
          rw [hDm x hx]
          exact or_congr_right (and_congr_left fun _ => by omega)
      · simp (disch := omega) only [wrap_id]
        have hMj : ¬ Mut g k j := fun q => by
          have := hM.1 q
          rcases h with h | h
          · rw [this.1] at h; cases h
          · rw [this.2] at h; cases h
        refine ⟨f2 - 1, by omega, Up.here ⟨j + 1, _, _, _, _, _, _, xs2, rfl, rfl, by omega, by rw [compL_not hMj]; exact hBl, hBo, hD, hDl, fun x hx => ?_, hWg⟩⟩
        rw [hDm x hx]
        refine or_congr_right ⟨fun q => ⟨by omega, q.2⟩, fun q => ⟨?_, q.2⟩⟩
        by_cases e : x = j
        · subst e; exact absurd q.2 hMj
        · omega
    · have hj : j = n := by omega
      subst hj
      have hlc := compL_len (g := g) (a := k) (k := j)
      have hlo : (outL g j k).length ≤ k := by unfold outL; rw [List.length_map]; exact leadL_len
      obtain ⟨Az, cz, ez, hSl⟩ := hBl.slok (L' := lk [gl, gr]) (lk_sub (by simp)) (lk_sub (by simp)) (by omega)
      simp only [Value.slice.injEq, true_and] at ez
      obtain ⟨rfl, rfl⟩ := ez
      rw [← hn]
      refine CallVC.read (co_kind (g := g) (hx.mono (lk_r _ _)) V (hSl.mono (lk_sub fun x hx => by simp at hx; rcases hx with rfl | rfl <;> simp))) ?_
      rintro v Γ' ⟨rfl, rfl⟩
      simp -implicitDefEqProofs only [go_sem, Nat.reduceBEq, Nat.reduceAdd, Nat.reduceSub, Nat.reduceMul, Nat.reduceLeDiff, reduceCtorEq, ↓reduceIte, Int.reduceLT, Int.reduceLE, Int.reduceEq, Int.reduceNe]
      intro b2
      have hadd : outL g j (k + 1) = outL g j k ++ [⟨kindF g (compL g k j), compL g k j⟩] := by simp [outL, leadL_add hL]
      refine s_app1 (ix := 2) (L := lk [gr]) (L' := lk [gl, gr]) (x := (⟨kindF g (compL g k j), compL g k j⟩ : Co)) rfl hBo (lk_sub (by simp)) ⟨_, _, rfl, hSl⟩ cells_one rfl (by omega) (by unfold maxLen; omega) ?_
      intro vo go' hBo' _
      rw [← hadd] at hBo'
      simp -implicitDefEqProofs only [go_sem, Nat.reduceBEq, Nat.reduceAdd, Nat.reduceSub, Nat.reduceMul, Nat.reduceLeDiff, reduceCtorEq, ↓reduceIte, Int.reduceLT, Int.reduceLE, Int.reduceEq, Int.reduceNe]
      simp (disch := omega) only [wrap_id]
      refine Up.sel [[2], [1, 3], [4], [5]] (by decide) fun _ hm => ⟨f - 1, by omega, Up.here ⟨k + 1, _, _, _, _, _, xs2, rfl, rfl, by omega, hBo'.mono (Mem.le.refl _) (hm [1, 3] (by simp)), hD, hDl, fun x hx => ?_, hWg⟩⟩
      rw [hDm x hx]
      constructor
      · rintro (⟨a, h1, h2⟩ | ⟨_, h2⟩)
        · exact ⟨a, by omega, h2⟩
        · exact ⟨k, by omega, h2⟩
      · rintro ⟨a, h1, h2⟩
        by_cases e : a = k
        · subst e; exact .inr ⟨by omega, h2⟩
        · exact .inl ⟨a, by omega, h2⟩
  · have hk : k = n := by omega
    subst hk
    refine Up.sel [[0], [1]] (by decide) fun _ _ => ?_
    subst hR
    exact .inr ⟨h0, _, _, _, rfl, rfl, hBo⟩
end Go.Proofs.Ytniobbepliknmaa.V
/- The text of parlance/parlref5.Groups as a statement (slots: 0 g, 1 g, 4 under, 5 sets, 6 kinds, 7 a, 8 l, 9 b, 10 last, 11 first, 12 _, 13 r, 14 i, 15 s, 16 k); no condition. -/
namespace Go.Proofs.Ytniobbepliknmaa.V
open Go
def S56_1 : Stmt :=
  Stmt.block 3
  (Stmt.seq
    (Stmt.region [SOper.mk (some 27) none (SOp.mv (Operand.tmp 25)), SOper.mk (some 9) none (SOp.mv (Operand.tmp 27))]
      [1, 4, 5, 6, 7, 8, 9, 19, 20, 24, 25])
    (Stmt.seq
      (Stmt.region
        [SOper.mk (some 28) none (SOp.mv (Operand.tmp 4)), SOper.mk (some 29) none (SOp.mv (Operand.tmp 7)),
          SOper.mk (some 30) none (SOp.call (Operand.tmp 28) [Operand.tmp 29]),
          SOper.mk (some 31) none (SOp.mv (Operand.tmp 9)),
          SOper.mk (some 32) none (SOp.q (Qk.look 164 false) [Operand.tmp 30, Operand.tmp 31]),
          SOper.mk (some 33) none (SOp.mv (Operand.tmp 32)),
          SOper.mk (some 34) (some (33, true)) (SOp.mv (Operand.tmp 4)),
          SOper.mk (some 35) (some (33, true)) (SOp.mv (Operand.tmp 9)),
          SOper.mk (some 36) (some (33, true)) (SOp.call (Operand.tmp 34) [Operand.tmp 35]),
          SOper.mk (some 37) (some (33, true)) (SOp.mv (Operand.tmp 7)),
          SOper.mk (some 38) (some (33, true)) (SOp.q (Qk.look 164 false) [Operand.tmp 36, Operand.tmp 37]),
          SOper.mk (some 39) none (SOp.pick (Operand.tmp 33) (Operand.tmp 38) (Operand.const (Value.bool false)))]
        [1, 4, 5, 6, 7, 8, 9, 19, 20, 24, 25, 39])
      (Stmt.cond (Operand.tmp 39)
        (Stmt.region
          [SOper.mk (some 40) none (SOp.mv (Operand.tmp 8)), SOper.mk (some 41) none (SOp.mv (Operand.tmp 9)),
            SOper.mk (some 42) none (SOp.buildS 3 1 [Value.int IntKind.i64 0] [(0, 1, Operand.tmp 41)]),
            SOper.mk (some 43) none (SOp.append 29 3 1 8 (Value.int IntKind.i64 0) (Operand.tmp 40) (Operand.tmp 42)),
            SOper.mk (some 8) none (SOp.mv (Operand.tmp 43))]
          [1, 4, 5, 6, 7, 8, 19, 20, 24, 25])
        Stmt.skip)))
def S56_2 : Stmt :=
  Stmt.region
  [SOper.mk (some 44) none (SOp.ibin BinOp.add (Operand.tmp 25) (Operand.const (Value.int IntKind.i64 1))),
    SOper.mk (some 25) none (SOp.mv (Operand.tmp 44))]
  [1, 4, 5, 6, 7, 8, 19, 20, 24, 25]
def S56_3 : Stmt :=
  Stmt.seq
  (Stmt.region [SOper.mk (some 26) none (SOp.ibin BinOp.lss (Operand.tmp 25) (Operand.tmp 24))]
    [1, 4, 5, 6, 7, 8, 19, 20, 24, 25, 26])
  (Stmt.seq (Stmt.cond (Operand.tmp 26) Stmt.skip (Stmt.exit 2))
    (Stmt.join S56_1 S56_2 [8] [1, 4, 5, 6, 7, 19, 20, 24, 25]))
def S56_4 : Stmt :=
  Stmt.block 7
  (Stmt.seq
    (Stmt.region
      [SOper.mk (some 62) none (SOp.mv (Operand.tmp 60)),
        SOper.mk (some 63) none (SOp.idx 2 (Operand.tmp 58) (Operand.tmp 60)),
        SOper.mk (some 64) none (SOp.load true 2 (Operand.tmp 63)),
        SOper.mk (some 15) none (SOp.alloc true 39 (Value.agg (Array.mk [Value.bool false, Value.int IntKind.i64 0]))),
        SOper.mk (some 14) none (SOp.mv (Operand.tmp 62)),
        SOper.mk none none (SOp.store 2 (Operand.tmp 15) (Operand.tmp 64))]
      [1, 4, 5, 6, 8, 10, 11, 13, 14, 15, 19, 20, 51, 52, 53, 58, 59, 60])
    (Stmt.seq
      (Stmt.region
        [SOper.mk (some 65) none (SOp.mv (Operand.tmp 8)), SOper.mk (some 66) none (SOp.fld 0 (Operand.tmp 13)),
          SOper.mk (some 67) none (SOp.load false 1 (Operand.tmp 66)),
          SOper.mk (some 68) none (SOp.call (Operand.func 32) [Operand.tmp 65, Operand.tmp 67]),
          SOper.mk (some 69) none (SOp.mv (Operand.tmp 68)),
          SOper.mk (some 70) (some (69, true)) (SOp.fld 0 (Operand.tmp 15)),
          SOper.mk (some 71) (some (69, true)) (SOp.load false 1 (Operand.tmp 70)),
          SOper.mk (some 72) (some (69, true)) (SOp.un UnOp.not (Operand.tmp 71)),
          SOper.mk (some 73) none (SOp.pick (Operand.tmp 69) (Operand.tmp 72) (Operand.const (Value.bool false))),
          SOper.mk (some 74) none (SOp.mv (Operand.tmp 73)),
          SOper.mk (some 75) (some (74, true)) (SOp.mv (Operand.tmp 8)),
          SOper.mk (some 76) (some (74, true)) (SOp.fld 1 (Operand.tmp 15)),
          SOper.mk (some 77) (some (74, true)) (SOp.load false 1 (Operand.tmp 76)),
          SOper.mk (some 78) (some (74, true)) (SOp.call (Operand.func 32) [Operand.tmp 75, Operand.tmp 77]),
          SOper.mk (some 79) none (SOp.pick (Operand.tmp 74) (Operand.tmp 78) (Operand.const (Value.bool false)))]
        [1, 4, 5, 6, 8, 10, 11, 13, 14, 19, 20, 51, 52, 53, 58, 59, 60, 79])
      (Stmt.cond (Operand.tmp 79)
        (Stmt.region
          [SOper.mk (some 80) none (SOp.mv (Operand.tmp 10)), SOper.mk (some 81) none (SOp.mv (Operand.tmp 80)),
            SOper.mk (some 82) (some (81, true)) (SOp.mv (Operand.tmp 14)),
            SOper.mk (some 83) (some (81, true))
              (SOp.ibin BinOp.add (Operand.tmp 82) (Operand.const (Value.int IntKind.i64 1))),
            SOper.mk (some 84) (some (81, true)) (SOp.fld 1 (Operand.tmp 13)),
            SOper.mk (some 85) (some (81, true)) (SOp.load false 1 (Operand.tmp 84)),
            SOper.mk (some 86) (some (81, true)) (SOp.len false (Operand.tmp 85)),
            SOper.mk (some 87) (some (81, true)) (SOp.ibin BinOp.eql (Operand.tmp 83) (Operand.tmp 86)),
            SOper.mk (some 88) none (SOp.pick (Operand.tmp 81) (Operand.tmp 87) (Operand.const (Value.bool false))),
            SOper.mk (some 89) none (SOp.mv (Operand.tmp 11)), SOper.mk (some 90) none (SOp.mv (Operand.tmp 89)),
            SOper.mk (some 91) (some (90, true)) (SOp.mv (Operand.tmp 14)),
            SOper.mk (some 92) (some (90, true))
              (SOp.ibin BinOp.eql (Operand.tmp 91) (Operand.const (Value.int IntKind.i64 0))),
            SOper.mk (some 93) none (SOp.pick (Operand.tmp 90) (Operand.tmp 92) (Operand.const (Value.bool false))),
            SOper.mk (some 10) none (SOp.mv (Operand.tmp 88)), SOper.mk (some 11) none (SOp.mv (Operand.tmp 93))]
          [1, 4, 5, 6, 8, 10, 11, 13, 19, 20, 51, 52, 53, 58, 59, 60])
        Stmt.skip)))
def S56_5 : Stmt :=
  Stmt.region
  [SOper.mk (some 94) none (SOp.ibin BinOp.add (Operand.tmp 60) (Operand.const (Value.int IntKind.i64 1))),
    SOper.mk (some 60) none (SOp.mv (Operand.tmp 94))]
  [1, 4, 5, 6, 8, 10, 11, 13, 19, 20, 51, 52, 53, 58, 59, 60]
def S56_6 : Stmt :=
  Stmt.seq
  (Stmt.region [SOper.mk (some 61) none (SOp.ibin BinOp.lss (Operand.tmp 60) (Operand.tmp 59))]
    [1, 4, 5, 6, 8, 10, 11, 13, 19, 20, 51, 52, 53, 58, 59, 60, 61])
  (Stmt.seq (Stmt.cond (Operand.tmp 61) Stmt.skip (Stmt.exit 6))
    (Stmt.join S56_4 S56_5 [10, 11] [1, 4, 5, 6, 8, 13, 19, 20, 51, 52, 53, 58, 59, 60]))
def S56_7 : Stmt :=
  Stmt.seq
  (Stmt.region [SOper.mk (some 54) none (SOp.ibin BinOp.lss (Operand.tmp 53) (Operand.tmp 52))]
    [1, 4, 5, 6, 8, 10, 11, 19, 20, 51, 52, 53, 54])
  (Stmt.seq (Stmt.cond (Operand.tmp 54) Stmt.skip (Stmt.exit 4))
    (Stmt.seq
      (Stmt.block 5
        (Stmt.seq
          (Stmt.region
            [SOper.mk (some 55) none (SOp.idx 2 (Operand.tmp 51) (Operand.tmp 53)),
              SOper.mk (some 56) none (SOp.load true 2 (Operand.tmp 55)),
              SOper.mk (some 13) none
                (SOp.alloc true 37 (Value.agg (Array.mk [Value.int IntKind.i64 0, Value.slice none 0 0]))),
              SOper.mk none none (SOp.store 2 (Operand.tmp 13) (Operand.tmp 56))]
            [1, 4, 5, 6, 8, 10, 11, 13, 19, 20, 51, 52, 53])
          (Stmt.seq
            (Stmt.region
              [SOper.mk (some 57) none (SOp.fld 1 (Operand.tmp 13)),
                SOper.mk (some 58) none (SOp.load false 1 (Operand.tmp 57)),
                SOper.mk (some 59) none (SOp.len false (Operand.tmp 58)),
                SOper.mk (some 60) none (SOp.mv (Operand.const (Value.int IntKind.i64 0)))]
              [1, 4, 5, 6, 8, 10, 11, 13, 19, 20, 51, 52, 53, 58, 59, 60])
            (Stmt.block 6 (Stmt.loop S56_6 [10, 11, 60] [1, 4, 5, 6, 8, 13, 19, 20, 51, 52, 53, 58, 59])))))
      (Stmt.region
        [SOper.mk (some 95) none (SOp.ibin BinOp.add (Operand.tmp 53) (Operand.const (Value.int IntKind.i64 1))),
          SOper.mk (some 53) none (SOp.mv (Operand.tmp 95))]
        [1, 4, 5, 6, 8, 10, 11, 19, 20, 51, 52, 53])))
def S56_8 : Stmt :=
  Stmt.seq (Stmt.region [SOper.mk (some 96) none (SOp.mv (Operand.tmp 11))] [1, 4, 5, 6, 8, 10, 16, 19, 20, 96])
  (Stmt.cond (Operand.tmp 96)
    (Stmt.region [SOper.mk (some 16) none (SOp.mv (Operand.const (Value.int IntKind.i64 1)))]
      [1, 4, 5, 6, 8, 10, 16, 19, 20])
    Stmt.skip)
def S56_9 : Stmt :=
  Stmt.seq (Stmt.region [SOper.mk (some 97) none (SOp.mv (Operand.tmp 10))] [1, 4, 5, 6, 8, 16, 19, 20, 97])
  (Stmt.cond (Operand.tmp 97)
    (Stmt.region [SOper.mk (some 16) none (SOp.mv (Operand.const (Value.int IntKind.i64 0)))]
      [1, 4, 5, 6, 8, 16, 19, 20])
    Stmt.skip)
def S56_10 : Stmt :=
  Stmt.region
  [SOper.mk (some 98) none (SOp.mv (Operand.tmp 5)), SOper.mk (some 99) none (SOp.mv (Operand.tmp 8)),
    SOper.mk (some 100) none (SOp.buildS 29 1 [Value.slice none 0 0] [(0, 1, Operand.tmp 99)]),
    SOper.mk (some 101) none (SOp.append 65 29 1 24 (Value.slice none 0 0) (Operand.tmp 98) (Operand.tmp 100)),
    SOper.mk (some 102) none (SOp.mv (Operand.tmp 6)), SOper.mk (some 103) none (SOp.mv (Operand.tmp 16)),
    SOper.mk (some 104) none (SOp.buildS 3 1 [Value.int IntKind.i64 0] [(0, 1, Operand.tmp 103)]),
    SOper.mk (some 105) none (SOp.append 29 3 1 8 (Value.int IntKind.i64 0) (Operand.tmp 102) (Operand.tmp 104)),
    SOper.mk (some 5) none (SOp.mv (Operand.tmp 101)), SOper.mk (some 6) none (SOp.mv (Operand.tmp 105))]
  [1, 4, 5, 6, 19, 20]
def S56_11 : Stmt :=
  Stmt.join S56_9 S56_10 [16] [1, 4, 5, 6, 8, 19, 20]
def S56_12 : Stmt :=
  Stmt.block 1
  (Stmt.seq
    (Stmt.region [SOper.mk (some 22) none (SOp.mv (Operand.tmp 20)), SOper.mk (some 7) none (SOp.mv (Operand.tmp 22))]
      [1, 4, 5, 6, 7, 19, 20])
    (Stmt.seq
      (Stmt.region [SOper.mk (some 8) none (SOp.mv (Operand.const (Value.slice none 0 0)))] [1, 4, 5, 6, 7, 8, 19, 20])
      (Stmt.seq
        (Stmt.seq
          (Stmt.region
            [SOper.mk (some 23) none (SOp.fld 1 (Operand.tmp 1)),
              SOper.mk (some 24) none (SOp.load false 1 (Operand.tmp 23)),
              SOper.mk (some 25) none (SOp.mv (Operand.const (Value.int IntKind.i64 0)))]
            [1, 4, 5, 6, 7, 8, 19, 20, 24, 25])
          (Stmt.block 2 (Stmt.loop S56_3 [8, 25] [1, 4, 5, 6, 7, 19, 20, 24])))
        (Stmt.seq
          (Stmt.seq
            (Stmt.region
              [SOper.mk (some 45) none (SOp.mv (Operand.tmp 8)),
                SOper.mk (some 46) none (SOp.idx 1 (Operand.tmp 45) (Operand.const (Value.int IntKind.i64 0))),
                SOper.mk (some 47) none (SOp.load false 1 (Operand.tmp 46)),
                SOper.mk (some 48) none (SOp.mv (Operand.tmp 7)),
                SOper.mk (some 49) none (SOp.ibin BinOp.neq (Operand.tmp 47) (Operand.tmp 48))]
              [1, 4, 5, 6, 8, 19, 20, 49])
            (Stmt.cond (Operand.tmp 49) (Stmt.exit 1) Stmt.skip))
          (Stmt.seq
            (Stmt.region
              [SOper.mk (some 10) none (SOp.mv (Operand.const (Value.bool true))),
                SOper.mk (some 11) none (SOp.mv (Operand.const (Value.bool true)))]
              [1, 4, 5, 6, 8, 10, 11, 19, 20])
            (Stmt.seq
              (Stmt.seq
                (Stmt.region
                  [SOper.mk (some 50) none (SOp.fld 3 (Operand.tmp 1)),
                    SOper.mk (some 51) none (SOp.load false 1 (Operand.tmp 50)),
                    SOper.mk (some 52) none (SOp.len false (Operand.tmp 51)),
                    SOper.mk (some 53) none (SOp.mv (Operand.const (Value.int IntKind.i64 0)))]
                  [1, 4, 5, 6, 8, 10, 11, 19, 20, 51, 52, 53])
                (Stmt.block 4 (Stmt.loop S56_7 [10, 11, 53] [1, 4, 5, 6, 8, 19, 20, 51, 52])))
              (Stmt.seq
                (Stmt.region [SOper.mk (some 16) none (SOp.mv (Operand.const (Value.int IntKind.i64 2)))]
                  [1, 4, 5, 6, 8, 10, 11, 16, 19, 20])
                (Stmt.join S56_8 S56_11 [16] [1, 4, 5, 6, 8, 10, 19, 20]))))))))
def S56_13 : Stmt :=
  Stmt.region
  [SOper.mk (some 106) none (SOp.ibin BinOp.add (Operand.tmp 20) (Operand.const (Value.int IntKind.i64 1))),
    SOper.mk (some 20) none (SOp.mv (Operand.tmp 106))]
  [1, 4, 5, 6, 19, 20]
def S56_14 : Stmt :=
  Stmt.seq
  (Stmt.region [SOper.mk (some 21) none (SOp.ibin BinOp.lss (Operand.tmp 20) (Operand.tmp 19))]
    [1, 4, 5, 6, 19, 20, 21])
  (Stmt.seq (Stmt.cond (Operand.tmp 21) Stmt.skip (Stmt.exit 0)) (Stmt.join S56_12 S56_13 [5, 6] [1, 4, 19, 20]))
def S56_0 : Stmt :=
  Stmt.seq
  (Stmt.region
    [SOper.mk (some 1) none (SOp.box false 57 (Operand.tmp 0)),
      SOper.mk (some 2) none (SOp.mv (Operand.const (Value.slice none 0 0))),
      SOper.mk (some 3) none (SOp.mv (Operand.const (Value.slice none 0 0)))]
    [1])
  (Stmt.seq
    (Stmt.region
      [SOper.mk (some 17) none (SOp.mkFunc 125 [Operand.tmp 1]), SOper.mk (some 4) none (SOp.mv (Operand.tmp 17))]
      [1, 4])
    (Stmt.seq (Stmt.region [SOper.mk (some 5) none (SOp.mv (Operand.const (Value.slice none 0 0)))] [1, 4, 5])
      (Stmt.seq (Stmt.region [SOper.mk (some 6) none (SOp.mv (Operand.const (Value.slice none 0 0)))] [1, 4, 5, 6])
        (Stmt.seq
          (Stmt.seq
            (Stmt.region
              [SOper.mk (some 18) none (SOp.fld 1 (Operand.tmp 1)),
                SOper.mk (some 19) none (SOp.load false 1 (Operand.tmp 18)),
                SOper.mk (some 20) none (SOp.mv (Operand.const (Value.int IntKind.i64 0)))]
              [1, 4, 5, 6, 19, 20])
            (Stmt.block 0 (Stmt.loop S56_14 [5, 6, 20] [1, 4, 19])))
          (Stmt.seq
            (Stmt.region
              [SOper.mk (some 107) none (SOp.mv (Operand.tmp 5)), SOper.mk (some 108) none (SOp.mv (Operand.tmp 6)),
                SOper.mk (some 2) none (SOp.mv (Operand.tmp 107)), SOper.mk (some 3) none (SOp.mv (Operand.tmp 108))]
              [2, 3])
            Stmt.ret)))))
def S56 : FnS := ⟨109, [(2, none), (3, none)], S56_0⟩
theorem tr56 : trFn Try.prog 56 [13, 15] [[1], [1, 4], [1, 4, 5], [1, 4, 5, 6], [1, 4, 5, 6, 19, 20], [5, 6, 20], [1, 4, 19], [1, 4, 5, 6, 19, 20, 21], [5, 6], [1, 4, 19, 20], [1, 4, 5, 6, 7, 19, 20], [1, 4, 5, 6, 7, 8, 19, 20], [1, 4, 5, 6, 7, 8, 19, 20, 24, 25], [8, 25], [1, 4, 5, 6, 7, 19, 20, 24], [1, 4, 5, 6, 7, 8, 19, 20, 24, 25, 26], [8], [1, 4, 5, 6, 7, 19, 20, 24, 25], [1, 4, 5, 6, 7, 8, 9, 19, 20, 24, 25], [1, 4, 5, 6, 7, 8, 9, 19, 20, 24, 25, 39], [1, 4, 5, 6, 7, 8, 19, 20, 24, 25], [1, 4, 5, 6, 7, 8, 19, 20, 24, 25], [1, 4, 5, 6, 8, 19, 20, 49], [1, 4, 5, 6, 8, 10, 11, 19, 20], [1, 4, 5, 6, 8, 10, 11, 19, 20, 51, 52, 53], [10, 11, 53], [1, 4, 5, 6, 8, 19, 20, 51, 52], [1, 4, 5, 6, 8, 10, 11, 19, 20, 51, 52, 53, 54], [1, 4, 5, 6, 8, 10, 11, 13, 19, 20, 51, 52, 53], [1, 4, 5, 6, 8, 10, 11, 13, 19, 20, 51, 52, 53, 58, 59, 60], [10, 11, 60], [1, 4, 5, 6, 8, 13, 19, 20, 51, 52, 53, 58, 59], [1, 4, 5, 6, 8, 10, 11, 13, 19, 20, 51, 52, 53, 58, 59, 60, 61], [10, 11], [1, 4, 5, 6, 8, 13, 19, 20, 51, 52, 53, 58, 59, 60], [1, 4, 5, 6, 8, 10, 11, 13, 14, 15, 19, 20, 51, 52, 53, 58, 59, 60], [1, 4, 5, 6, 8, 10, 11, 13, 14, 19, 20, 51, 52, 53, 58, 59, 60, 79], [1, 4, 5, 6, 8, 10, 11, 13, 19, 20, 51, 52, 53, 58, 59, 60], [1, 4, 5, 6, 8, 10, 11, 13, 19, 20, 51, 52, 53, 58, 59, 60], [1, 4, 5, 6, 8, 10, 11, 19, 20, 51, 52, 53], [1, 4, 5, 6, 8, 10, 11, 16, 19, 20], [16], [1, 4, 5, 6, 8, 10, 19, 20], [1, 4, 5, 6, 8, 10, 16, 19, 20, 96], [1, 4, 5, 6, 8, 10, 16, 19, 20], [16], [1, 4, 5, 6, 8, 19, 20], [1, 4, 5, 6, 8, 16, 19, 20, 97], [1, 4, 5, 6, 8, 16, 19, 20], [1, 4, 5, 6, 19, 20], [1, 4, 5, 6, 19, 20], [2, 3]] = some S56 := by kernel_rfl
end Go.Proofs.Ytniobbepliknmaa.V
/- Components of a grammar: parlref5.Groups walked; no condition. -/
namespace Go.Proofs.Ytniobbepliknmaa.V
open Go
set_option linter.unusedVariables false
set_option linter.unusedSimpArgs false
attribute [local go_sem] e_seq e_region e_quiet e_join e_loop e_cond e_block e_exit e_ret e_skip e_fin e_kseq e_snrm e_sret e_sex e_bnrm e_bret e_bex e_rnrm e_rret e_res e_condC e_nil e_g e_mv g_mv e_pick g_pick pickC_eq e_ibin g_ibin ibinC_eq e_sbin g_sbin e_beq g_beq beqC_eq e_nilq g_nilq nilqC_sl nilqC_pt nilqC_mp e_un g_un unC_not unC_neg e_conv g_conv convC_eq e_fld g_fld fldC_ref fldC_ptr e_nilCheck g_nilCheck nilCheckC_ref nilCheckC_ptr nilCheckC_fun e_field g_field fieldC_eq e_len g_len lenC_sl lenC_str e_extract g_extract extractC_eq e_mkFunc e_build g_build e_idiv g_idiv idivC_eq e_ishift g_ishift ishiftC_eq e_idx g_idx e_idxA g_idxA e_load g_load loadC_ref loadC_ptr loadB_eq e_slc g_slc e_box boxC_loc boxC_esc e_alloc allocC_loc allocC_esc e_buildS e_store storeC_ref storeC_ptr storeB_eq e_append e_appz e_mk mkC_eq e_call callC_eq e_fn g_fn fnC_eq fnV_min' fnV_max' fnV_rune' e_q g_q e_a e_n g_call g_box g_alloc g_buildS g_store g_append g_mk g_a g_n g_dead e_dead e_callK e_drawn e_tree e_finJ e_tk e_tfin e_tno e_nbt_q e_nbt_qn e_nbt_a e_nbt_an e_nbt_fin e_early_nil e_early_t e_early_f e_nob_nil e_nob_none e_nob_some isBox_dead isBox_v isBox_ref e_dnil e_dk e_ek e_finB vcOps_vc1 e_dcons e_tq e_ekt e_tearly e_talt e_dearly look_nil look_c proj_nil proj_c looks_nil looks_c zip_nil zip_c val_tmp val_const val_func slv_v slv_box slv_ref slot_tmp slot_const slot_func slotL_v slotL_box slotL_ref put_some put_none updBox_c boxSet_box gd_eq slotVals_nil slotVals_c slotVals_b boxV_box boxOn_box slotsOn_nil slotsOn_c slotsOn_b resV_one resV_two vals_nil vals_c allOn_nil allOn_c partOn_nil partOn_c partVals_nil partVals_c fits_nil fits_c fillL_nil fillL_c mkv_one mkv_agg cellsV_agg cellsV_int cellsV_bool cellsV_slice cellsV_string cellsV_pointer cellsV_func cellsV_nilf cellsV_map one'_nil one'_c oc_int oc_bool oc_slice oc_string oc_pointer oc_func oc_nilf oc_map setC_eq iv_add iv_sub iv_mul iv_eql iv_neq iv_lss iv_leq iv_gtr iv_geq iok_add iok_sub iok_mul iok_eql iok_neq iok_lss iok_leq iok_gtr iok_geq pickV_bool args0_nil args0_c bnd_none bnd_some imp_bt imp_bf imp_ebt imp_ebf imp_eb1 imp_np imp_pp beq_tt beq_tf beq_ft beq_ff cond_or cond_and e_round e_meet Int.le_refl Int.toNat_zero decide_true decide_false Bool.or_false Bool.false_or Bool.true_or Bool.or_true Bool.and_false Bool.false_and Bool.bne_false Bool.bne_true beq_iff_eq Int.cast_ofNat_Int not_false_eq_true not_true_eq_false false_and and_false false_implies true_implies true_and and_true Bool.true_and Bool.and_true Bool.not_true Bool.not_false forall_const implies_true List.take_zero List.drop_zero List.take_succ_cons List.drop_succ_cons List.take_nil List.drop_nil List.length_cons List.length_nil List.nil_append List.append_nil List.cons_append Int.toNat_natCast decide_eq_true_eq decide_eq_false_iff_not cond_true cond_false and_self List.getElem?_cons_zero List.getElem?_cons_succ List.set_cons_zero List.set_cons_succ Option.some.injEq exists_eq_left' Nat.zero_add Nat.add_zero Nat.mul_one imp_self true_or or_true or_false false_or Bool.or_eq_true Bool.or_eq_false_iff Bool.and_eq_true Bool.and_eq_false_iff Bool.not_eq_true' Bool.not_eq_false'

set_option maxHeartbeats 4000000 in
theorem ref_groups {Γr : Ctx} {g : Gr} {A : Option Addr} {c : Nat} (hx : SlOk (lk Γr) A c g.rs) (V : VG g) :
    Ret Try.prog 56 [.agg #[.int .i64 g.ts, .int .i64 g.ns, .int .i64 g.st, .slice A g.rs.length c]] Γr [] (fun v Γ => ∃ gs gl gk v1 v2, Γ = [gs, gl, gk] ∧ v = .tuple #[v1, v2] ∧ Bld gs (lk [gl]) 29 v1 (setsL g g.ns.toNat g.ns.toNat) ∧ Bld gk (lk []) 3 v2 (kindsL g g.ns.toNat g.ns.toNat)) := by
  generalize hR : (fun (v : Value) (Γ : Ctx) => ∃ gs gl gk v1 v2, _) = R
  refine ret_of_vc tr56 (Nat.le_of_ble_eq_true rfl) ?_
  have hns := V.ns
  have hvl := V.len
  obtain ⟨n, hn⟩ : ∃ n : Nat, g.ns = n := ⟨g.ns.toNat, by omega⟩
  have hn10 : n ≤ 10 := by omega
  rw [show g.ns.toNat = n by omega] at hR
  simp -implicitDefEqProofs only [S56, S56_0, go_sem, Nat.reduceBEq, Nat.reduceAdd, Nat.reduceSub, Nat.reduceMul, Nat.reduceLeDiff, reduceCtorEq, ↓reduceIte, Int.reduceLT, Int.reduceLE, Int.reduceEq, Int.reduceNe]
  intro b
  have hbd : (one b (.cells [.int .i64 g.ts, .int .i64 g.ns, .int .i64 g.st, .slice A g.rs.length c].toArray 57 (0, 0))) b = some (.cells [.int .i64 g.ts, .int .i64 g.ns, .int .i64 g.st, .slice A g.rs.length c].toArray 57 (0, 0)) := one_self _ _
  generalize one b _ = g0 at *
  refine s_ld (o := 0) (j := 1) (cells_lk ⟨g0, by simp, hbd⟩) (by simp) (by simp) ?_
  simp -implicitDefEqProofs only [go_sem, Nat.reduceBEq, Nat.reduceAdd, Nat.reduceSub, Nat.reduceMul, Nat.reduceLeDiff, reduceCtorEq, ↓reduceIte, Int.reduceLT, Int.reduceLE, Int.reduceEq, Int.reduceNe]
  rw [hn]
  refine s_loop (fun f vs Γ => ∃ (k : Nat) (gs gl gk : PH) (v1 v2 : Value), vs = [.v true v1, .v true v2, .v true (.int .i64 k)] ∧ Γ = [gs, gl, gk, g0] ∧ k + f = n ∧ Bld gs (lk [gl]) 29 v1 (setsL g n k) ∧ Bld gk (lk []) 3 v2 (kindsL g n k)) n
    (Up.sel [[], [], [], [0]] (by decide) fun _ _ => ⟨0, _, _, _, _, _, rfl, rfl, by omega, Bld.nil _ _ _, Bld.nil _ _ _⟩) ?_
  rintro f vs Γ ⟨k, gs, gl, gk, v1, v2, rfl, rfl, hkf, hBs, hBk⟩
  obtain ⟨A1, c1, rfl⟩ := hBs.val
  obtain ⟨A2, c2, rfl⟩ := hBk.val
  simp -implicitDefEqProofs only [S56_14, go_sem, Nat.reduceBEq, Nat.reduceAdd, Nat.reduceSub, Nat.reduceMul, Nat.reduceLeDiff, reduceCtorEq, ↓reduceIte, Int.reduceLT, Int.reduceLE, Int.reduceEq, Int.reduceNe]
  refine ⟨fun hlt => ?_, fun hge => ?_⟩
  · have hk : k < n := by omega
    refine s_split ?_
    simp -implicitDefEqProofs only [S56_12, S56_13, go_sem, Nat.reduceBEq, Nat.reduceAdd, Nat.reduceSub, Nat.reduceMul, Nat.reduceLeDiff, reduceCtorEq, ↓reduceIte, Int.reduceLT, Int.reduceLE, Int.reduceEq, Int.reduceNe]
    refine s_ld (o := 0) (j := 1) (cells_lk ⟨g0, by simp, hbd⟩) (by simp) (by simp) ?_
    simp -implicitDefEqProofs only [go_sem, Nat.reduceBEq, Nat.reduceAdd, Nat.reduceSub, Nat.reduceMul, Nat.reduceLeDiff, reduceCtorEq, ↓reduceIte, Int.reduceLT, Int.reduceLE, Int.reduceEq, Int.reduceNe]
    rw [hn]
    refine s_loop (fun f2 vs Γ => ∃ (j : Nat) (gr gs gl gk : PH) (v : Value), vs = [.v true v, .v true (.int .i64 j)] ∧ Γ = [gr, gs, gl, gk, g0] ∧ j + f2 = n ∧ Bld gr (lk []) 3 v (compL g k j) ∧ Bld gs (lk [gl]) 29 (.slice A1 (setsL g n k).length c1) (setsL g n k) ∧ Bld gk (lk []) 3 (.slice A2 (kindsL g n k).length c2) (kindsL g n k)) n
      (Up.sel [[], [0], [1], [2], [3]] (by decide) fun _ _ => ⟨0, _, _, _, _, _, rfl, rfl, by omega, Bld.nil _ _ _, hBs, hBk⟩) ?_
    clear hBs hBk
    rintro f2 vs Γ ⟨j, gr, gs, gl, gk, v, rfl, rfl, hjf, hBr, hBs, hBk⟩
    obtain ⟨A3, c3, rfl⟩ := hBr.val
    have hlc := compL_len (g := g) (a := k) (k := j)
    simp -implicitDefEqProofs only [S56_3, go_sem, Nat.reduceBEq, Nat.reduceAdd, Nat.reduceSub, Nat.reduceMul, Nat.reduceLeDiff, reduceCtorEq, ↓reduceIte, Int.reduceLT, Int.reduceLE, Int.reduceEq, Int.reduceNe]
    refine ⟨fun hlt => ?_, fun hge => ?_⟩
    · have hj : j < n := by omega
      refine s_split ?_
      simp -implicitDefEqProofs only [S56_1, S56_2, go_sem, Nat.reduceBEq, Nat.reduceAdd, Nat.reduceSub, Nat.reduceMul, Nat.reduceLeDiff, reduceCtorEq, ↓reduceIte, Int.reduceLT, Int.reduceLE, Int.reduceEq, Int.reduceNe]
      refine CallVC.read (und_under (b := b) (g := g) ⟨g0, by simp, hbd⟩ (hx.mono (lk_r _ _)) V hn hk) ?_
      rintro v Γ' ⟨gm, bm, m, rfl, rfl, hM, hm⟩
      simp -implicitDefEqProofs only [go_sem, Nat.reduceBEq, Nat.reduceAdd, Nat.reduceSub, Nat.reduceMul, Nat.reduceLeDiff, reduceCtorEq, ↓reduceIte, Int.reduceLT, Int.reduceLE, Int.reduceEq, Int.reduceNe]
      refine s_q trivial (set_look hM (by simp) (okI_of (by omega))) ?_
      simp -implicitDefEqProofs only [go_sem, Nat.reduceBEq, Nat.reduceAdd, Nat.reduceSub, Nat.reduceMul, Nat.reduceLeDiff, reduceCtorEq, ↓reduceIte, Int.reduceLT, Int.reduceLE, Int.reduceEq, Int.reduceNe]
      by_cases h1 : (j : Int) ∈ m
      · simp only [h1, decide_true]
        simp -implicitDefEqProofs only [go_sem, Nat.reduceBEq, Nat.reduceAdd, Nat.reduceSub, Nat.reduceMul, Nat.reduceLeDiff, reduceCtorEq, ↓reduceIte, Int.reduceLT, Int.reduceLE, Int.reduceEq, Int.reduceNe]
        refine CallVC.read (und_under (b := b) (g := g) ⟨g0, by simp, hbd⟩ (hx.mono (lk_r _ _)) V hn hj) ?_
        rintro v Γ' ⟨gm2, bm2, m2, rfl, rfl, hM2, hm2⟩
        simp -implicitDefEqProofs only [go_sem, Nat.reduceBEq, Nat.reduceAdd, Nat.reduceSub, Nat.reduceMul, Nat.reduceLeDiff, reduceCtorEq, ↓reduceIte, Int.reduceLT, Int.reduceLE, Int.reduceEq, Int.reduceNe]
        refine s_q trivial (set_look hM2 (by simp) (okI_of (by omega))) ?_
        simp -implicitDefEqProofs only [go_sem, Nat.reduceBEq, Nat.reduceAdd, Nat.reduceSub, Nat.reduceMul, Nat.reduceLeDiff, reduceCtorEq, ↓reduceIte, Int.reduceLT, Int.reduceLE, Int.reduceEq, Int.reduceNe]
        refine ⟨fun h2 => ?_, fun h2 => Up.here ?_⟩
        · intro b3
          refine s_app1S (ix := 3) (j : Int) rfl hBr cells_one rfl (by omega) (by unfold maxLen; omega) ?_
          intro vr gr' hBr' _
          simp -implicitDefEqProofs only [go_sem, Nat.reduceBEq, Nat.reduceAdd, Nat.reduceSub, Nat.reduceMul, Nat.reduceLeDiff, reduceCtorEq, ↓reduceIte, Int.reduceLT, Int.reduceLE, Int.reduceEq, Int.reduceNe]
          simp (disch := omega) only [wrap_id]
          exact Up.sel [[3], [4], [5], [6], [7]] (by decide) fun _ _ => ⟨f2 - 1, by omega, Up.here ⟨j + 1, _, _, _, _, _, rfl, rfl, by omega, by rw [compL_add ⟨(hm j).1 h1, (hm2 k).1 h2⟩]; exact hBr', hBs, hBk⟩⟩
        · simp (disch := omega) only [wrap_id]
          exact ⟨f2 - 1, by omega, Up.sel [[2], [3], [4], [5], [6]] (by decide) fun _ _ => ⟨j + 1, _, _, _, _, _, rfl, rfl, by omega, by rw [compL_not fun q => h2 ((hm2 k).2 q.2)]; exact hBr, hBs, hBk⟩⟩
      · simp only [h1, decide_false]
        simp -implicitDefEqProofs only [go_sem, Nat.reduceBEq, Nat.reduceAdd, Nat.reduceSub, Nat.reduceMul, Nat.reduceLeDiff, reduceCtorEq, ↓reduceIte, Int.reduceLT, Int.reduceLE, Int.reduceEq, Int.reduceNe]
        refine ⟨.map none, ?_⟩
        refine ⟨.bool false, (fun h => Bool.noConfusion h), ?_⟩
        simp -implicitDefEqProofs only [go_sem, Nat.reduceBEq, Nat.reduceAdd, Nat.reduceSub, Nat.reduceMul, Nat.reduceLeDiff, reduceCtorEq, ↓reduceIte, Int.reduceLT, Int.reduceLE, Int.reduceEq, Int.reduceNe]
        simp (disch := omega) only [wrap_id]
        exact Up.here ⟨f2 - 1, by omega, Up.sel [[1], [2], [3], [4], [5]] (by decide) fun _ _ => ⟨j + 1, _, _, _, _, _, rfl, rfl, by omega, by rw [compL_not fun q => h1 ((hm j).2 q.1)]; exact hBr, hBs, hBk⟩⟩
    · have hj : j = n := by omega
      subst hj
      clear hlt
      obtain ⟨hpos, hhead⟩ := compL_head (g := g) hk
      generalize hl : compL g k j = l at *
      obtain ⟨Az, cz, ez, hSl⟩ := hBr.slok (L' := lk [gr]) (Mem.le.refl _) (lk_sub (by simp)) (by omega)
      simp only [Value.slice.injEq, true_and] at ez
      obtain ⟨rfl, rfl⟩ := ez
      obtain ⟨b4, o4, hA4, hc4⟩ := hSl.int hpos
      refine s_idx hA4 (by omega) (by omega) ?_
      simp -implicitDefEqProofs only [go_sem, Nat.reduceBEq, Nat.reduceAdd, Nat.reduceSub, Nat.reduceMul, Nat.reduceLeDiff, reduceCtorEq, ↓reduceIte, Int.reduceLT, Int.reduceLE, Int.reduceEq, Int.reduceNe]
      refine s_ld0 (hc4 _ (lk_sub (by simp))) (by simp) (by simp) ?_
      simp -implicitDefEqProofs only [go_sem, Nat.reduceBEq, Nat.reduceAdd, Nat.reduceSub, Nat.reduceMul, Nat.reduceLeDiff, reduceCtorEq, ↓reduceIte, Int.reduceLT, Int.reduceLE, Int.reduceEq, Int.reduceNe]
      refine ⟨fun hne => ?_, fun heq => ?_⟩
      · have hnl : ¬ Lead g k := fun h => hne (hhead.2 h)
        have hs' : setsL g j (k + 1) = setsL g j k := by simp [setsL, leadL_not hnl]
        have hk' : kindsL g j (k + 1) = kindsL g j k := by simp [kindsL, leadL_not hnl]
        simp (disch := omega) only [wrap_id]
        exact Up.here ⟨f - 1, by omega, Up.sel [[1], [2], [3], [4]] (by decide) fun _ _ => ⟨k + 1, _, _, _, _, _, rfl, rfl, by omega, by rw [hs']; exact hBs, by rw [hk']; exact hBk⟩⟩
      have hL : Lead g k := hhead.1 heq
      refine s_ld (o := 0) (j := 3) (cells_lk ⟨g0, by simp, hbd⟩) (by simp) (by simp) ?_
      simp -implicitDefEqProofs only [go_sem, Nat.reduceBEq, Nat.reduceAdd, Nat.reduceSub, Nat.reduceMul, Nat.reduceLeDiff, reduceCtorEq, ↓reduceIte, Int.reduceLT, Int.reduceLE, Int.reduceEq, Int.reduceNe]
      refine s_loop (fun f3 vs Γ => ∃ (i : Nat) (p q : Bool), vs = [.v true (.bool p), .v true (.bool q), .v true (.int .i64 i)] ∧ Γ = [gr, gs, gl, gk, g0] ∧ i + f3 = g.rs.length ∧ (p = true ↔ okG qLast l g.rs i) ∧ (q = true ↔ okG qFst l g.rs i)) g.rs.length
        (Up.here ⟨0, true, true, rfl, rfl, by omega, by simp [okG_zero], by simp [okG_zero]⟩) ?_
      rintro f3 vs Γ ⟨i, p, q, rfl, rfl, hif, hp, hq⟩
      simp -implicitDefEqProofs only [S56_7, go_sem, Nat.reduceBEq, Nat.reduceAdd, Nat.reduceSub, Nat.reduceMul, Nat.reduceLeDiff, reduceCtorEq, ↓reduceIte, Int.reduceLT, Int.reduceLE, Int.reduceEq, Int.reduceNe]
      refine ⟨fun hlt => ?_, fun hge => ?_⟩
      · have hi : i < g.rs.length := by omega
        have hmem : g.rs[i] ∈ g.rs := List.getElem_mem hi
        have hr4 := V.right _ hmem
        have hsP := okG_succ (q := qLast) (l := l) hi
        have hsQ := okG_succ (q := qFst) (l := l) hi
        obtain ⟨b5, o5, hA5, A6, c6, hr3, hc6⟩ := hx.ru hi
        generalize g.rs[i] = r at *
        refine s_idx hA5 (by omega) (by omega) ?_
        simp -implicitDefEqProofs only [go_sem, Nat.reduceBEq, Nat.reduceAdd, Nat.reduceSub, Nat.reduceMul, Nat.reduceLeDiff, reduceCtorEq, ↓reduceIte, Int.reduceLT, Int.reduceLE, Int.reduceEq, Int.reduceNe]
        refine s_ld0 (hc6 _ (lk_r _ _)) (by simp) (by simp) ?_
        simp -implicitDefEqProofs only [go_sem, Nat.reduceBEq, Nat.reduceAdd, Nat.reduceSub, Nat.reduceMul, Nat.reduceLeDiff, reduceCtorEq, ↓reduceIte, Int.reduceLT, Int.reduceLE, Int.reduceEq, Int.reduceNe]
        intro b6
        refine s_loop (fun f4 vs Γ => ∃ (j : Nat) (p' q' : Bool), vs = [.v true (.bool p'), .v true (.bool q'), .v true (.int .i64 j)] ∧ Γ = [gr, gs, gl, gk, g0] ∧ j + f4 = r.r.length ∧ (p' = true ↔ okG qLast l g.rs i ∧ (r.l ∈ l → okR qLast l r.r j)) ∧ (q' = true ↔ okG qFst l g.rs i ∧ (r.l ∈ l → okR qFst l r.r j))) r.r.length
          (Up.here ⟨0, p, q, rfl, rfl, by omega, by simp [hp, okR_zero], by simp [hq, okR_zero]⟩) ?_
        rintro f4 vs Γ ⟨j2, p', q', rfl, rfl, hjf2, hp', hq'⟩
        simp -implicitDefEqProofs only [S56_6, go_sem, Nat.reduceBEq, Nat.reduceAdd, Nat.reduceSub, Nat.reduceMul, Nat.reduceLeDiff, reduceCtorEq, ↓reduceIte, Int.reduceLT, Int.reduceLE, Int.reduceEq, Int.reduceNe]
        refine ⟨fun hlt => ?_, fun hge => ?_⟩
        · have hj2 : j2 < r.r.length := by omega
          have hsPj := okR_succ (q := qLast) (l := l) hj2
          have hsQj := okR_succ (q := qFst) (l := l) hj2
          obtain ⟨b7, o7, hA7, hc7⟩ := hr3.sy hj2
          generalize r.r[j2] = s at *
          refine s_split ?_
          simp -implicitDefEqProofs only [S56_4, S56_5, go_sem, Nat.reduceBEq, Nat.reduceAdd, Nat.reduceSub, Nat.reduceMul, Nat.reduceLeDiff, reduceCtorEq, ↓reduceIte, Int.reduceLT, Int.reduceLE, Int.reduceEq, Int.reduceNe]
          refine s_idx hA7 (by omega) (by omega) ?_
          simp -implicitDefEqProofs only [go_sem, Nat.reduceBEq, Nat.reduceAdd, Nat.reduceSub, Nat.reduceMul, Nat.reduceLeDiff, reduceCtorEq, ↓reduceIte, Int.reduceLT, Int.reduceLE, Int.reduceEq, Int.reduceNe]
          refine s_ld0 (hc7 _ (lk_r _ _)) (by simp) (by simp) ?_
          simp -implicitDefEqProofs only [go_sem, Nat.reduceBEq, Nat.reduceAdd, Nat.reduceSub, Nat.reduceMul, Nat.reduceLeDiff, reduceCtorEq, ↓reduceIte, Int.reduceLT, Int.reduceLE, Int.reduceEq, Int.reduceNe]
          intro b8
          refine CallVC.read (slices_contains (hSl.mono (lk_sub fun x hx => by simp at hx; simp [hx])) r.l) ?_
          rintro v Γ' ⟨rfl, rfl⟩
          simp -implicitDefEqProofs only [go_sem, Nat.reduceBEq, Nat.reduceAdd, Nat.reduceSub, Nat.reduceMul, Nat.reduceLeDiff, reduceCtorEq, ↓reduceIte, Int.reduceLT, Int.reduceLE, Int.reduceEq, Int.reduceNe]
          by_cases hin : r.l ∈ l
          · rw [decide_eq_true hin]
            cases hst : s.t with
            | true =>
              rw [hst] at hsPj hsQj
              simp -implicitDefEqProofs only [go_sem, Nat.reduceBEq, Nat.reduceAdd, Nat.reduceSub, Nat.reduceMul, Nat.reduceLeDiff, reduceCtorEq, ↓reduceIte, Int.reduceLT, Int.reduceLE, Int.reduceEq, Int.reduceNe]
              refine ⟨.bool false, ?_⟩
              simp -implicitDefEqProofs only [go_sem, Nat.reduceBEq, Nat.reduceAdd, Nat.reduceSub, Nat.reduceMul, Nat.reduceLeDiff, reduceCtorEq, ↓reduceIte, Int.reduceLT, Int.reduceLE, Int.reduceEq, Int.reduceNe]
              simp (disch := omega) only [wrap_id]
              refine Up.here ⟨f4 - 1, by omega, Up.here ⟨j2 + 1, p', q', rfl, rfl, by omega, ?_, ?_⟩⟩
              · rw [hp', hsPj]; simp
              · rw [hq', hsQj]; simp
            | false =>
              rw [hst] at hsPj hsQj
              simp -implicitDefEqProofs only [go_sem, Nat.reduceBEq, Nat.reduceAdd, Nat.reduceSub, Nat.reduceMul, Nat.reduceLeDiff, reduceCtorEq, ↓reduceIte, Int.reduceLT, Int.reduceLE, Int.reduceEq, Int.reduceNe]
              refine fun _ => ⟨hin, ?_⟩
              refine CallVC.read (slices_contains (hSl.mono (lk_sub fun x hx => by simp at hx; simp [hx])) s.n) ?_
              rintro v Γ' ⟨rfl, rfl⟩
              simp -implicitDefEqProofs only [go_sem, Nat.reduceBEq, Nat.reduceAdd, Nat.reduceSub, Nat.reduceMul, Nat.reduceLeDiff, reduceCtorEq, ↓reduceIte, Int.reduceLT, Int.reduceLE, Int.reduceEq, Int.reduceNe]
              refine ⟨fun hsin => ?_, fun hno => Up.here ?_⟩
              · simp (disch := omega) only [wrap_id]
                refine Up.here ⟨f4 - 1, by omega, Up.here ⟨j2 + 1, _, _, rfl, rfl, by omega, ?_, ?_⟩⟩
                · rw [Bool.and_eq_true, decide_eq_true_eq, hp', hsPj, and_assoc]
                  refine and_congr_right fun _ => ⟨fun h _ => ⟨h.1 hin, fun _ _ => by unfold qLast; omega⟩, fun h => ⟨fun _ => (h hin).1, ?_⟩⟩
                  have := (h hin).2 rfl hsin
                  unfold qLast at this
                  omega
                · rw [Bool.and_eq_true, decide_eq_true_eq, hq', hsQj, and_assoc]
                  refine and_congr_right fun _ => ⟨fun h _ => ⟨h.1 hin, fun _ _ => by unfold qFst; omega⟩, fun h => ⟨fun _ => (h hin).1, ?_⟩⟩
                  have := (h hin).2 rfl hsin
                  unfold qFst at this
                  omega
              · simp (disch := omega) only [wrap_id]
                refine ⟨f4 - 1, by omega, Up.here ⟨j2 + 1, p', q', rfl, rfl, by omega, ?_, ?_⟩⟩
                · rw [hp', hsPj]; exact ⟨fun h => ⟨h.1, fun q => ⟨h.2 q, fun _ q => absurd q hno⟩⟩, fun h => ⟨h.1, fun q => (h.2 q).1⟩⟩
                · rw [hq', hsQj]; exact ⟨fun h => ⟨h.1, fun q => ⟨h.2 q, fun _ q => absurd q hno⟩⟩, fun h => ⟨h.1, fun q => (h.2 q).1⟩⟩
          · rw [decide_eq_false hin]
            simp -implicitDefEqProofs only [go_sem, Nat.reduceBEq, Nat.reduceAdd, Nat.reduceSub, Nat.reduceMul, Nat.reduceLeDiff, reduceCtorEq, ↓reduceIte, Int.reduceLT, Int.reduceLE, Int.reduceEq, Int.reduceNe]
            refine ⟨fun h => absurd h.1 hin, .bool false, fun h => hin h.1, ?_⟩
            simp -implicitDefEqProofs only [go_sem, Nat.reduceBEq, Nat.reduceAdd, Nat.reduceSub, Nat.reduceMul, Nat.reduceLeDiff, reduceCtorEq, ↓reduceIte, Int.reduceLT, Int.reduceLE, Int.reduceEq, Int.reduceNe]
            simp (disch := omega) only [wrap_id]
            refine Up.here ⟨f4 - 1, by omega, Up.here ⟨j2 + 1, p', q', rfl, rfl, by omega, ?_, ?_⟩⟩
            · rw [hp']; exact and_congr_right fun _ => ⟨fun _ q => absurd q hin, fun _ q => absurd q hin⟩
            · rw [hq']; exact and_congr_right fun _ => ⟨fun _ q => absurd q hin, fun _ q => absurd q hin⟩
        · have hj2 : j2 = r.r.length := by omega
          subst hj2
          simp (disch := omega) only [wrap_id]
          exact ⟨f3 - 1, by omega, Up.here ⟨i + 1, p', q', rfl, rfl, by omega, by rw [hp', hsP], by rw [hq', hsQ]⟩⟩
      · have hi : i = g.rs.length := by omega
        rw [hi] at hp hq
        have hfin := kindF_eq hp hq
        have hll : (leadL g k).length ≤ k := leadL_len
        have hsl : (setsL g j k).length ≤ k := by unfold setsL; rw [List.length_map]; exact hll
        have hkl : (kindsL g j k).length ≤ k := by unfold kindsL; rw [List.length_map]; exact hll
        have hs' : setsL g j (k + 1) = setsL g j k ++ [l] := by simp [setsL, leadL_add hL, hl]
        have hk' : kindsL g j (k + 1) = kindsL g j k ++ [kindF g l] := by simp [kindsL, leadL_add hL, hl]
        have hSl2 : SlOk (lk [gr, gl]) A3 c3 l := hSl.mono (lk_sub (by simp))
        cases p <;> cases q
        all_goals
          refine s_split ?_
          simp -implicitDefEqProofs only [S56_8, S56_11, go_sem, Nat.reduceBEq, Nat.reduceAdd, Nat.reduceSub, Nat.reduceMul, Nat.reduceLeDiff, reduceCtorEq, ↓reduceIte, Int.reduceLT, Int.reduceLE, Int.reduceEq, Int.reduceNe]
          refine Up.here ?_
          refine s_split ?_
          simp -implicitDefEqProofs only [S56_9, S56_10, go_sem, Nat.reduceBEq, Nat.reduceAdd, Nat.reduceSub, Nat.reduceMul, Nat.reduceLeDiff, reduceCtorEq, ↓reduceIte, Int.reduceLT, Int.reduceLE, Int.reduceEq, Int.reduceNe]
          refine Up.here ?_
          intro b9
          refine s_app1 (ix := 2) (L := lk [gl]) (L' := lk [gr, gl]) (x := l) rfl hBs (lk_sub (by simp)) ⟨_, _, rfl, hSl2⟩ cells_one rfl (by omega) (by unfold maxLen; omega) ?_
          intro vs' gs' hBs' _
          rw [← hs'] at hBs'
          simp -implicitDefEqProofs only [go_sem, Nat.reduceBEq, Nat.reduceAdd, Nat.reduceSub, Nat.reduceMul, Nat.reduceLeDiff, reduceCtorEq, ↓reduceIte, Int.reduceLT, Int.reduceLE, Int.reduceEq, Int.reduceNe]
          intro b10
          refine s_app1S (ix := 5) _ rfl hBk cells_one rfl (by omega) (by unfold maxLen; omega) ?_
          intro vk' gk' hBk' _
          simp -implicitDefEqProofs only [go_sem, Nat.reduceBEq, Nat.reduceAdd, Nat.reduceSub, Nat.reduceMul, Nat.reduceLeDiff, reduceCtorEq, ↓reduceIte, Int.reduceLT, Int.reduceLE, Int.reduceEq, Int.reduceNe]
          simp (disch := omega) only [wrap_id]
          refine Up.sel [[3], [2, 4], [5], [6]] (by decide) fun _ hm => ⟨f - 1, by omega, Up.here ⟨k + 1, _, _, _, _, _, rfl, rfl, by omega, hBs'.mono (Mem.le.refl _) (hm [2, 4] (by simp)), ?_⟩⟩
          rw [hk', ← hfin]
          exact hBk'
  · have hk : k = n := by omega
    subst hk
    refine Up.sel [[0], [1], [2]] (by decide) fun _ _ => ?_
    subst hR
    exact ⟨_, _, _, _, _, rfl, rfl, hBs, hBk⟩
end Go.Proofs.Ytniobbepliknmaa.V
/- The text of parlance/draw.Number as a statement (slots: 0 n, 1 coins, 2 n, 3 coins, 7 bits, 8 used, 9 x, 10 _, 11 c); no condition. -/
namespace Go.Proofs.Ytniobbepliknmaa.V
open Go
def S21_1 : Stmt :=
  Stmt.seq
  (Stmt.seq
    (Stmt.region
      [SOper.mk (some 18) none (SOp.mv (Operand.tmp 7)),
        SOper.mk (some 19) none (SOp.ishift BinOp.shl (Operand.const (Value.int IntKind.i64 1)) (Operand.tmp 18)),
        SOper.mk (some 20) none (SOp.mv (Operand.tmp 0)),
        SOper.mk (some 21) none (SOp.ibin BinOp.lss (Operand.tmp 19) (Operand.tmp 20))]
      [0, 1, 7, 21])
    (Stmt.cond (Operand.tmp 21) Stmt.skip (Stmt.exit 0)))
  (Stmt.block 1
    (Stmt.region
      [SOper.mk (some 22) none (SOp.mv (Operand.tmp 7)),
        SOper.mk (some 23) none (SOp.ibin BinOp.add (Operand.tmp 22) (Operand.const (Value.int IntKind.i64 1))),
        SOper.mk (some 7) none (SOp.mv (Operand.tmp 23))]
      [0, 1, 7]))
def S21_2 : Stmt :=
  Stmt.block 5
  (Stmt.seq
    (Stmt.region
      [SOper.mk (some 39) none (SOp.idx 1 (Operand.tmp 35) (Operand.tmp 37)),
        SOper.mk (some 40) none (SOp.load false 1 (Operand.tmp 39)), SOper.mk (some 11) none (SOp.mv (Operand.tmp 40))]
      [0, 1, 7, 8, 9, 11, 35, 36, 37])
    (Stmt.seq
      (Stmt.region
        [SOper.mk (some 41) none (SOp.mv (Operand.tmp 9)),
          SOper.mk (some 42) none (SOp.ibin BinOp.mul (Operand.tmp 41) (Operand.const (Value.int IntKind.i64 2))),
          SOper.mk (some 9) none (SOp.mv (Operand.tmp 42))]
        [0, 1, 7, 8, 9, 11, 35, 36, 37])
      (Stmt.seq (Stmt.region [SOper.mk (some 43) none (SOp.mv (Operand.tmp 11))] [0, 1, 7, 8, 9, 35, 36, 37, 43])
        (Stmt.cond (Operand.tmp 43)
          (Stmt.region
            [SOper.mk (some 44) none (SOp.mv (Operand.tmp 9)),
              SOper.mk (some 45) none (SOp.ibin BinOp.add (Operand.tmp 44) (Operand.const (Value.int IntKind.i64 1))),
              SOper.mk (some 9) none (SOp.mv (Operand.tmp 45))]
            [0, 1, 7, 8, 9, 35, 36, 37])
          Stmt.skip))))
def S21_3 : Stmt :=
  Stmt.region
  [SOper.mk (some 46) none (SOp.ibin BinOp.add (Operand.tmp 37) (Operand.const (Value.int IntKind.i64 1))),
    SOper.mk (some 37) none (SOp.mv (Operand.tmp 46))]
  [0, 1, 7, 8, 9, 35, 36, 37]
def S21_4 : Stmt :=
  Stmt.seq
  (Stmt.region [SOper.mk (some 38) none (SOp.ibin BinOp.lss (Operand.tmp 37) (Operand.tmp 36))]
    [0, 1, 7, 8, 9, 35, 36, 37, 38])
  (Stmt.seq (Stmt.cond (Operand.tmp 38) Stmt.skip (Stmt.exit 4)) (Stmt.join S21_2 S21_3 [9] [0, 1, 7, 8, 35, 36, 37]))
def S21_5 : Stmt :=
  Stmt.seq
  (Stmt.seq
    (Stmt.region
      [SOper.mk (some 24) none (SOp.mv (Operand.tmp 8)), SOper.mk (some 25) none (SOp.mv (Operand.tmp 7)),
        SOper.mk (some 26) none (SOp.ibin BinOp.add (Operand.tmp 24) (Operand.tmp 25)),
        SOper.mk (some 27) none (SOp.mv (Operand.tmp 1)), SOper.mk (some 28) none (SOp.len false (Operand.tmp 27)),
        SOper.mk (some 29) none (SOp.ibin BinOp.leq (Operand.tmp 26) (Operand.tmp 28))]
      [0, 1, 7, 8, 29])
    (Stmt.cond (Operand.tmp 29) Stmt.skip (Stmt.exit 2)))
  (Stmt.block 3
    (Stmt.seq (Stmt.region [SOper.mk (some 9) none (SOp.mv (Operand.const (Value.int IntKind.i64 0)))] [0, 1, 7, 8, 9])
      (Stmt.seq
        (Stmt.seq
          (Stmt.region
            [SOper.mk (some 30) none (SOp.mv (Operand.tmp 1)), SOper.mk (some 31) none (SOp.mv (Operand.tmp 8)),
              SOper.mk (some 32) none (SOp.mv (Operand.tmp 8)), SOper.mk (some 33) none (SOp.mv (Operand.tmp 7)),
              SOper.mk (some 34) none (SOp.ibin BinOp.add (Operand.tmp 32) (Operand.tmp 33)),
              SOper.mk (some 35) none (SOp.slc 1 (Operand.tmp 30) (some (Operand.tmp 31)) (some (Operand.tmp 34)) none),
              SOper.mk (some 36) none (SOp.len false (Operand.tmp 35)),
              SOper.mk (some 37) none (SOp.mv (Operand.const (Value.int IntKind.i64 0)))]
            [0, 1, 7, 8, 9, 35, 36, 37])
          (Stmt.block 4 (Stmt.loop S21_4 [9, 37] [0, 1, 7, 8, 35, 36])))
        (Stmt.seq
          (Stmt.region
            [SOper.mk (some 47) none (SOp.mv (Operand.tmp 8)), SOper.mk (some 48) none (SOp.mv (Operand.tmp 7)),
              SOper.mk (some 49) none (SOp.ibin BinOp.add (Operand.tmp 47) (Operand.tmp 48)),
              SOper.mk (some 8) none (SOp.mv (Operand.tmp 49))]
            [0, 1, 7, 8, 9])
          (Stmt.seq
            (Stmt.region
              [SOper.mk (some 50) none (SOp.mv (Operand.tmp 9)), SOper.mk (some 51) none (SOp.mv (Operand.tmp 0)),
                SOper.mk (some 52) none (SOp.ibin BinOp.lss (Operand.tmp 50) (Operand.tmp 51))]
              [0, 1, 7, 8, 9, 52])
            (Stmt.cond (Operand.tmp 52)
              (Stmt.seq
                (Stmt.region
                  [SOper.mk (some 53) none (SOp.mv (Operand.tmp 9)), SOper.mk (some 54) none (SOp.mv (Operand.tmp 8)),
                    SOper.mk (some 4) none (SOp.mv (Operand.tmp 53)), SOper.mk (some 5) none (SOp.mv (Operand.tmp 54)),
                    SOper.mk (some 6) none (SOp.mv (Operand.const (Value.int IntKind.i64 0)))]
                  [4, 5, 6])
                Stmt.ret)
              Stmt.skip))))))
def S21_0 : Stmt :=
  Stmt.seq
  (Stmt.region
    [SOper.mk (some 4) none (SOp.mv (Operand.const (Value.int IntKind.i64 0))),
      SOper.mk (some 5) none (SOp.mv (Operand.const (Value.int IntKind.i64 0))),
      SOper.mk (some 6) none (SOp.mv (Operand.const (Value.int IntKind.i64 0)))]
    [0, 1])
  (Stmt.seq
    (Stmt.seq
      (Stmt.region
        [SOper.mk (some 12) none (SOp.mv (Operand.tmp 0)),
          SOper.mk (some 13) none (SOp.ibin BinOp.lss (Operand.tmp 12) (Operand.const (Value.int IntKind.i64 1))),
          SOper.mk (some 14) none (SOp.mv (Operand.tmp 13)),
          SOper.mk (some 15) (some (14, false)) (SOp.mv (Operand.tmp 0)),
          SOper.mk (some 16) (some (14, false))
            (SOp.ibin BinOp.gtr (Operand.tmp 15) (Operand.const (Value.int IntKind.i64 1000000000))),
          SOper.mk (some 17) none (SOp.pick (Operand.tmp 14) (Operand.const (Value.bool true)) (Operand.tmp 16))]
        [0, 1, 17])
      (Stmt.cond (Operand.tmp 17)
        (Stmt.seq
          (Stmt.region
            [SOper.mk (some 4) none (SOp.mv (Operand.const (Value.int IntKind.i64 0))),
              SOper.mk (some 5) none (SOp.mv (Operand.const (Value.int IntKind.i64 0))),
              SOper.mk (some 6) none (SOp.mv (Operand.const (Value.int IntKind.i64 1)))]
            [4, 5, 6])
          Stmt.ret)
        Stmt.skip))
    (Stmt.seq (Stmt.region [SOper.mk (some 7) none (SOp.mv (Operand.const (Value.int IntKind.i64 0)))] [0, 1, 7])
      (Stmt.seq (Stmt.block 0 (Stmt.loop S21_1 [7] [0, 1]))
        (Stmt.seq
          (Stmt.seq
            (Stmt.region [SOper.mk (some 8) none (SOp.mv (Operand.const (Value.int IntKind.i64 0)))] [0, 1, 7, 8])
            (Stmt.block 2 (Stmt.loop S21_5 [8] [0, 1, 7])))
          (Stmt.seq
            (Stmt.region
              [SOper.mk (some 4) none (SOp.mv (Operand.const (Value.int IntKind.i64 0))),
                SOper.mk (some 5) none (SOp.mv (Operand.const (Value.int IntKind.i64 0))),
                SOper.mk (some 6) none (SOp.mv (Operand.const (Value.int IntKind.i64 5)))]
              [4, 5, 6])
            Stmt.ret)))))
def S21 : FnS := ⟨55, [(4, none), (5, none), (6, none)], S21_0⟩
theorem tr21 : trFn Try.prog 21 [] [[0, 1], [0, 1, 17], [4, 5, 6], [0, 1, 7], [7], [0, 1], [0, 1, 7, 21], [0, 1, 7], [0, 1, 7, 8], [8], [0, 1, 7], [0, 1, 7, 8, 29], [0, 1, 7, 8, 9], [0, 1, 7, 8, 9, 35, 36, 37], [9, 37], [0, 1, 7, 8, 35, 36], [0, 1, 7, 8, 9, 35, 36, 37, 38], [9], [0, 1, 7, 8, 35, 36, 37], [0, 1, 7, 8, 9, 11, 35, 36, 37], [0, 1, 7, 8, 9, 11, 35, 36, 37], [0, 1, 7, 8, 9, 35, 36, 37, 43], [0, 1, 7, 8, 9, 35, 36, 37], [0, 1, 7, 8, 9, 35, 36, 37], [0, 1, 7, 8, 9], [0, 1, 7, 8, 9, 52], [4, 5, 6], [4, 5, 6]] = some S21 := by kernel_rfl
end Go.Proofs.Ytniobbepliknmaa.V
/- The text of parlance/parlref5.Coins as a statement (slots: 0 n, 1 coins, 2 n, 3 coins, 7 k, 8 p, 9 i, 10 part, 11 x, 12 j); no condition. -/
namespace Go.Proofs.Ytniobbepliknmaa.V
open Go
def S22_1 : Stmt :=
  Stmt.seq
  (Stmt.seq
    (Stmt.region
      [SOper.mk (some 13) none (SOp.mv (Operand.tmp 8)), SOper.mk (some 14) none (SOp.mv (Operand.tmp 0)),
        SOper.mk (some 15) none (SOp.ibin BinOp.lss (Operand.tmp 13) (Operand.tmp 14))]
      [0, 1, 7, 8, 15])
    (Stmt.cond (Operand.tmp 15) Stmt.skip (Stmt.exit 0)))
  (Stmt.seq
    (Stmt.block 1
      (Stmt.region
        [SOper.mk (some 18) none (SOp.mv (Operand.tmp 7)),
          SOper.mk (some 19) none (SOp.ibin BinOp.add (Operand.tmp 18) (Operand.const (Value.int IntKind.i64 1))),
          SOper.mk (some 7) none (SOp.mv (Operand.tmp 19))]
        [0, 1, 7, 8]))
    (Stmt.region
      [SOper.mk (some 16) none (SOp.mv (Operand.tmp 8)),
        SOper.mk (some 17) none (SOp.ibin BinOp.mul (Operand.tmp 16) (Operand.const (Value.int IntKind.i64 2))),
        SOper.mk (some 8) none (SOp.mv (Operand.tmp 17))]
      [0, 1, 7, 8]))
def S22_2 : Stmt :=
  Stmt.block 5
  (Stmt.seq
    (Stmt.region [SOper.mk (some 40) none (SOp.mv (Operand.tmp 38)), SOper.mk (some 12) none (SOp.mv (Operand.tmp 40))]
      [0, 1, 7, 9, 10, 11, 12, 37, 38])
    (Stmt.seq
      (Stmt.region
        [SOper.mk (some 41) none (SOp.mv (Operand.tmp 10)), SOper.mk (some 42) none (SOp.mv (Operand.tmp 12)),
          SOper.mk (some 43) none (SOp.idx 1 (Operand.tmp 41) (Operand.tmp 42)),
          SOper.mk (some 44) none (SOp.load false 1 (Operand.tmp 43))]
        [0, 1, 7, 9, 10, 11, 12, 37, 38, 44])
      (Stmt.cond (Operand.tmp 44)
        (Stmt.region
          [SOper.mk (some 45) none (SOp.mv (Operand.tmp 11)), SOper.mk (some 46) none (SOp.mv (Operand.tmp 7)),
            SOper.mk (some 47) none (SOp.ibin BinOp.sub (Operand.tmp 46) (Operand.const (Value.int IntKind.i64 1))),
            SOper.mk (some 48) none (SOp.mv (Operand.tmp 12)),
            SOper.mk (some 49) none (SOp.ibin BinOp.sub (Operand.tmp 47) (Operand.tmp 48)),
            SOper.mk (some 50) none (SOp.ishift BinOp.shl (Operand.const (Value.int IntKind.i64 1)) (Operand.tmp 49)),
            SOper.mk (some 51) none (SOp.ibin BinOp.add (Operand.tmp 45) (Operand.tmp 50)),
            SOper.mk (some 11) none (SOp.mv (Operand.tmp 51))]
          [0, 1, 7, 9, 10, 11, 37, 38])
        Stmt.skip)))
def S22_3 : Stmt :=
  Stmt.region
  [SOper.mk (some 52) none (SOp.ibin BinOp.add (Operand.tmp 38) (Operand.const (Value.int IntKind.i64 1))),
    SOper.mk (some 38) none (SOp.mv (Operand.tmp 52))]
  [0, 1, 7, 9, 10, 11, 37, 38]
def S22_4 : Stmt :=
  Stmt.seq
  (Stmt.region [SOper.mk (some 39) none (SOp.ibin BinOp.lss (Operand.tmp 38) (Operand.tmp 37))]
    [0, 1, 7, 9, 10, 11, 37, 38, 39])
  (Stmt.seq (Stmt.cond (Operand.tmp 39) Stmt.skip (Stmt.exit 4)) (Stmt.join S22_2 S22_3 [11] [0, 1, 7, 9, 10, 37, 38]))
def S22_5 : Stmt :=
  Stmt.seq
  (Stmt.seq
    (Stmt.region
      [SOper.mk (some 20) none (SOp.mv (Operand.tmp 9)), SOper.mk (some 21) none (SOp.mv (Operand.tmp 7)),
        SOper.mk (some 22) none (SOp.ibin BinOp.mul (Operand.tmp 20) (Operand.tmp 21)),
        SOper.mk (some 23) none (SOp.mv (Operand.tmp 1)), SOper.mk (some 24) none (SOp.len false (Operand.tmp 23)),
        SOper.mk (some 25) none (SOp.ibin BinOp.leq (Operand.tmp 22) (Operand.tmp 24))]
      [0, 1, 7, 9, 25])
    (Stmt.cond (Operand.tmp 25) Stmt.skip (Stmt.exit 2)))
  (Stmt.seq
    (Stmt.block 3
      (Stmt.seq
        (Stmt.region
          [SOper.mk (some 28) none (SOp.mv (Operand.tmp 1)), SOper.mk (some 29) none (SOp.mv (Operand.tmp 9)),
            SOper.mk (some 30) none (SOp.mv (Operand.tmp 7)),
            SOper.mk (some 31) none (SOp.ibin BinOp.mul (Operand.tmp 29) (Operand.tmp 30)),
            SOper.mk (some 32) none (SOp.slc 1 (Operand.tmp 28) (some (Operand.tmp 31)) none none),
            SOper.mk (some 10) none (SOp.mv (Operand.tmp 32))]
          [0, 1, 7, 9, 10])
        (Stmt.seq
          (Stmt.seq
            (Stmt.region
              [SOper.mk (some 33) none (SOp.mv (Operand.tmp 10)),
                SOper.mk (some 34) none (SOp.len false (Operand.tmp 33)),
                SOper.mk (some 35) none (SOp.mv (Operand.tmp 7)),
                SOper.mk (some 36) none (SOp.ibin BinOp.lss (Operand.tmp 34) (Operand.tmp 35))]
              [0, 1, 7, 9, 10, 36])
            (Stmt.cond (Operand.tmp 36)
              (Stmt.seq
                (Stmt.region
                  [SOper.mk (some 4) none (SOp.mv (Operand.const (Value.int IntKind.i64 0))),
                    SOper.mk (some 5) none (SOp.mv (Operand.const (Value.int IntKind.i64 0))),
                    SOper.mk (some 6) none (SOp.mv (Operand.const (Value.bool false)))]
                  [4, 5, 6])
                Stmt.ret)
              Stmt.skip))
          (Stmt.seq
            (Stmt.region [SOper.mk (some 11) none (SOp.mv (Operand.const (Value.int IntKind.i64 0)))]
              [0, 1, 7, 9, 10, 11])
            (Stmt.seq
              (Stmt.seq
                (Stmt.region
                  [SOper.mk (some 37) none (SOp.mv (Operand.tmp 7)),
                    SOper.mk (some 38) none (SOp.mv (Operand.const (Value.int IntKind.i64 0)))]
                  [0, 1, 7, 9, 10, 11, 37, 38])
                (Stmt.block 4 (Stmt.loop S22_4 [11, 38] [0, 1, 7, 9, 10, 37])))
              (Stmt.seq
                (Stmt.region
                  [SOper.mk (some 53) none (SOp.mv (Operand.tmp 11)), SOper.mk (some 54) none (SOp.mv (Operand.tmp 0)),
                    SOper.mk (some 55) none (SOp.ibin BinOp.lss (Operand.tmp 53) (Operand.tmp 54))]
                  [0, 1, 7, 9, 11, 55])
                (Stmt.cond (Operand.tmp 55)
                  (Stmt.seq
                    (Stmt.region
                      [SOper.mk (some 56) none (SOp.mv (Operand.tmp 11)),
                        SOper.mk (some 57) none (SOp.mv (Operand.tmp 9)),
                        SOper.mk (some 58) none
                          (SOp.ibin BinOp.add (Operand.tmp 57) (Operand.const (Value.int IntKind.i64 1))),
                        SOper.mk (some 59) none (SOp.mv (Operand.tmp 7)),
                        SOper.mk (some 60) none (SOp.ibin BinOp.mul (Operand.tmp 58) (Operand.tmp 59)),
                        SOper.mk (some 4) none (SOp.mv (Operand.tmp 56)),
                        SOper.mk (some 5) none (SOp.mv (Operand.tmp 60)),
                        SOper.mk (some 6) none (SOp.mv (Operand.const (Value.bool true)))]
                      [4, 5, 6])
                    Stmt.ret)
                  Stmt.skip)))))))
    (Stmt.region
      [SOper.mk (some 26) none (SOp.mv (Operand.tmp 9)),
        SOper.mk (some 27) none (SOp.ibin BinOp.add (Operand.tmp 26) (Operand.const (Value.int IntKind.i64 1))),
        SOper.mk (some 9) none (SOp.mv (Operand.tmp 27))]
      [0, 1, 7, 9]))
def S22_0 : Stmt :=
  Stmt.seq
  (Stmt.region
    [SOper.mk (some 4) none (SOp.mv (Operand.const (Value.int IntKind.i64 0))),
      SOper.mk (some 5) none (SOp.mv (Operand.const (Value.int IntKind.i64 0))),
      SOper.mk (some 6) none (SOp.mv (Operand.const (Value.bool false)))]
    [0, 1])
  (Stmt.seq (Stmt.region [SOper.mk (some 7) none (SOp.mv (Operand.const (Value.int IntKind.i64 0)))] [0, 1, 7])
    (Stmt.seq
      (Stmt.seq (Stmt.region [SOper.mk (some 8) none (SOp.mv (Operand.const (Value.int IntKind.i64 1)))] [0, 1, 7, 8])
        (Stmt.block 0 (Stmt.loop S22_1 [7, 8] [0, 1])))
      (Stmt.seq
        (Stmt.seq (Stmt.region [SOper.mk (some 9) none (SOp.mv (Operand.const (Value.int IntKind.i64 0)))] [0, 1, 7, 9])
          (Stmt.block 2 (Stmt.loop S22_5 [9] [0, 1, 7])))
        (Stmt.seq
          (Stmt.region
            [SOper.mk (some 4) none (SOp.mv (Operand.const (Value.int IntKind.i64 0))),
              SOper.mk (some 5) none (SOp.mv (Operand.const (Value.int IntKind.i64 0))),
              SOper.mk (some 6) none (SOp.mv (Operand.const (Value.bool false)))]
            [4, 5, 6])
          Stmt.ret))))
def S22 : FnS := ⟨61, [(4, none), (5, none), (6, none)], S22_0⟩
theorem tr22 : trFn Try.prog 22 [] [[0, 1], [0, 1, 7], [0, 1, 7, 8], [7, 8], [0, 1], [0, 1, 7, 8, 15], [0, 1, 7, 8], [0, 1, 7, 8], [0, 1, 7, 9], [9], [0, 1, 7], [0, 1, 7, 9, 25], [0, 1, 7, 9, 10], [0, 1, 7, 9, 10, 36], [4, 5, 6], [0, 1, 7, 9, 10, 11], [0, 1, 7, 9, 10, 11, 37, 38], [11, 38], [0, 1, 7, 9, 10, 37], [0, 1, 7, 9, 10, 11, 37, 38, 39], [11], [0, 1, 7, 9, 10, 37, 38], [0, 1, 7, 9, 10, 11, 12, 37, 38], [0, 1, 7, 9, 10, 11, 12, 37, 38, 44], [0, 1, 7, 9, 10, 11, 37, 38], [0, 1, 7, 9, 10, 11, 37, 38], [0, 1, 7, 9, 11, 55], [4, 5, 6], [0, 1, 7, 9], [4, 5, 6]] = some S22 := by kernel_rfl
end Go.Proofs.Ytniobbepliknmaa.V
/- Numbers by coins: the plain law of draw.Number and parlref5.Coins, and both walked; no condition. -/
namespace Go.Proofs.Ytniobbepliknmaa.V
open Go
set_option linter.unusedVariables false
set_option linter.unusedSimpArgs false
attribute [local go_sem] e_seq e_region e_quiet e_join e_loop e_cond e_block e_exit e_ret e_skip e_fin e_kseq e_snrm e_sret e_sex e_bnrm e_bret e_bex e_rnrm e_rret e_res e_condC e_nil e_g e_mv g_mv e_pick g_pick pickC_eq e_ibin g_ibin ibinC_eq e_sbin g_sbin e_beq g_beq beqC_eq e_nilq g_nilq nilqC_sl nilqC_pt nilqC_mp e_un g_un unC_not unC_neg e_conv g_conv convC_eq e_fld g_fld fldC_ref fldC_ptr e_nilCheck g_nilCheck nilCheckC_ref nilCheckC_ptr nilCheckC_fun e_field g_field fieldC_eq e_len g_len lenC_sl lenC_str e_extract g_extract extractC_eq e_mkFunc e_build g_build e_idiv g_idiv idivC_eq e_ishift g_ishift ishiftC_eq e_idx g_idx e_idxA g_idxA e_load g_load loadC_ref loadC_ptr loadB_eq e_slc g_slc e_box boxC_loc boxC_esc e_alloc allocC_loc allocC_esc e_buildS e_store storeC_ref storeC_ptr storeB_eq e_append e_appz e_mk mkC_eq e_call callC_eq e_fn g_fn fnC_eq fnV_min' fnV_max' fnV_rune' e_q g_q e_a e_n g_call g_box g_alloc g_buildS g_store g_append g_mk g_a g_n g_dead e_dead e_callK e_drawn e_tree e_finJ e_tk e_tfin e_tno e_nbt_q e_nbt_qn e_nbt_a e_nbt_an e_nbt_fin e_early_nil e_early_t e_early_f e_nob_nil e_nob_none e_nob_some isBox_dead isBox_v isBox_ref e_dnil e_dk e_ek e_finB vcOps_vc1 e_dcons e_tq e_ekt e_tearly e_talt e_dearly look_nil look_c proj_nil proj_c looks_nil looks_c zip_nil zip_c val_tmp val_const val_func slv_v slv_box slv_ref slot_tmp slot_const slot_func slotL_v slotL_box slotL_ref put_some put_none updBox_c boxSet_box gd_eq slotVals_nil slotVals_c slotVals_b boxV_box boxOn_box slotsOn_nil slotsOn_c slotsOn_b resV_one resV_two vals_nil vals_c allOn_nil allOn_c partOn_nil partOn_c partVals_nil partVals_c fits_nil fits_c fillL_nil fillL_c mkv_one mkv_agg cellsV_agg cellsV_int cellsV_bool cellsV_slice cellsV_string cellsV_pointer cellsV_func cellsV_nilf cellsV_map one'_nil one'_c oc_int oc_bool oc_slice oc_string oc_pointer oc_func oc_nilf oc_map setC_eq iv_add iv_sub iv_mul iv_eql iv_neq iv_lss iv_leq iv_gtr iv_geq iok_add iok_sub iok_mul iok_eql iok_neq iok_lss iok_leq iok_gtr iok_geq pickV_bool args0_nil args0_c bnd_none bnd_some imp_bt imp_bf imp_ebt imp_ebf imp_eb1 imp_np imp_pp beq_tt beq_tf beq_ft beq_ff cond_or cond_and e_round e_meet Int.le_refl Int.toNat_zero decide_true decide_false Bool.or_false Bool.false_or Bool.true_or Bool.or_true Bool.and_false Bool.false_and Bool.bne_false Bool.bne_true beq_iff_eq Int.cast_ofNat_Int not_false_eq_true not_true_eq_false false_and and_false false_implies true_implies true_and and_true Bool.true_and Bool.and_true Bool.not_true Bool.not_false forall_const implies_true List.take_zero List.drop_zero List.take_succ_cons List.drop_succ_cons List.take_nil List.drop_nil List.length_cons List.length_nil List.nil_append List.append_nil List.cons_append Int.toNat_natCast decide_eq_true_eq decide_eq_false_iff_not cond_true cond_false and_self List.getElem?_cons_zero List.getElem?_cons_succ List.set_cons_zero List.set_cons_succ Option.some.injEq exists_eq_left' Nat.zero_add Nat.add_zero Nat.mul_one imp_self true_or or_true or_false false_or Bool.or_eq_true Bool.or_eq_false_iff Bool.and_eq_true Bool.and_eq_false_iff Bool.not_eq_true' Bool.not_eq_false'

/-- the number that coins tell, the first one being worth most -/
def bval (l : List Bool) : Nat := l.foldl (fun x c => 2 * x + c.toNat) 0
def coinsG (n b : Nat) (coins : List Bool) : Nat → Nat → Option (Nat × Nat)
  | 0, _ => none
  | f + 1, used => if used + b ≤ coins.length then
      (if bval ((coins.drop used).take b) < n then some (bval ((coins.drop used).take b), used + b) else coinsG n b coins f (used + b)) else none
/-- how many coins tell a number below n -/
def bitsG (n : Nat) : Nat → Nat → Nat
  | 0, b => b
  | f + 1, b => if 2 ^ b < n then bitsG n f (b + 1) else b
def coinsF (n : Nat) (coins : List Bool) : Option (Nat × Nat) := coinsG n (bitsG n 40 0) coins (coins.length + 1) 0

theorem bval_snoc (l : List Bool) (c : Bool) : bval (l ++ [c]) = 2 * bval l + c.toNat := by simp [bval]
theorem bval_lt (l : List Bool) : bval l < 2 ^ l.length := by
  suffices h : ∀ (l : List Bool) (x : Nat), l.foldl (fun x c => 2 * x + c.toNat) x < (x + 1) * 2 ^ l.length by simpa [bval] using h l 0
  intro l
  induction l with
  | nil => intro x; simp
  | cons c l ih =>
    intro x
    have h := ih (2 * x + c.toNat)
    have hc : c.toNat ≤ 1 := by cases c <;> simp
    simp only [List.foldl_cons, List.length_cons]
    refine Nat.lt_of_lt_of_le h ?_
    rw [Nat.pow_succ, Nat.mul_comm (2 ^ l.length) 2, ← Nat.mul_assoc]
    exact Nat.mul_le_mul_right _ (by omega)

/-- the bits that are found are few -/
theorem bitsG_le (n : Nat) (hn : n ≤ 2 ^ 40) : ∀ f b, b + f = 40 → bitsG n f b ≤ 40
  | 0, b, h => by simp [bitsG]; omega
  | f + 1, b, h => by
    simp only [bitsG]
    split
    · exact bitsG_le n hn f (b + 1) (by omega)
    · omega

theorem shl_one (b : Nat) (hb : b ≤ 40) : ishiftV .shl .i64 1 (b : Int) = .int .i64 ((2 ^ b : Nat) : Int) := by
  have h1 : min (b : Int).toNat IntKind.i64.bits = b := by
    have : IntKind.i64.bits = 64 := rfl
    rw [this]; omega
  have h2 : (2 : Nat) ^ b ≤ 2 ^ 40 := Nat.pow_le_pow_right (by omega) hb
  simp only [ishiftV, h1, Int.one_mul]
  rw [wrap_id]
  · simp
  · have : (0 : Int) ≤ ((2 ^ b : Nat) : Int) := Int.natCast_nonneg _
    simp at this ⊢; omega
  · have h3 : ((2 ^ b : Nat) : Int) ≤ ((2 ^ 40 : Nat) : Int) := by exact_mod_cast h2
    simp at h3 ⊢; omega

theorem draw_number {Γr : Ctx} (n : Int) (A : Option Addr) (c : Nat) (coins : List Bool) (hc : SlOk (lk Γr) A c coins) :
    Ret Try.prog 21 [.int .i64 n, .slice A coins.length c] Γr [] (fun v Γ => Γ = [] ∧
      v = if n < 1 ∨ 1000000000 < n then .tuple #[.int .i64 0, .int .i64 0, .int .i64 1] else
        match coinsF n.toNat coins with
        | some (x, u) => .tuple #[.int .i64 x, .int .i64 u, .int .i64 0]
        | none => .tuple #[.int .i64 0, .int .i64 0, .int .i64 5]) := by
  generalize hR : (fun v Γ => Γ = [] ∧ v = _) = R
  refine ret_of_vc tr21 (Nat.le_of_ble_eq_true rfl) ?_
  simp only [S21, S21_0, go_sem, Nat.reduceBEq, Nat.reduceAdd, Nat.reduceSub, Nat.reduceMul, Nat.reduceLeDiff, reduceCtorEq, ↓reduceIte, Int.reduceLT, Int.reduceLE, Int.reduceEq, Int.reduceNe]
  refine ⟨fun h => Up.here ?_, fun hn => ?_⟩
  · subst hR
    rw [if_pos h]
    exact ⟨rfl, rfl⟩
  have hno : ¬ (n < 1 ∨ 1000000000 < n) := by omega
  obtain ⟨m, rfl⟩ : ∃ m : Nat, n = m := ⟨n.toNat, by omega⟩
  have hlen := hc.short
  have hm40 : m ≤ 2 ^ 40 := by omega
  -- how many bits
  refine s_loop (fun f vs Γ => Γ = [] ∧ ∃ b : Nat, vs = [.v true (.int .i64 b)] ∧ b + f = 40 ∧ bitsG m f b = bitsG m 40 0) 40 (Up.here ⟨rfl, 0, rfl, rfl, rfl⟩) ?_
  rintro f vs Γ ⟨rfl, b, rfl, hbf, hb⟩
  simp only [S21_1, go_sem, Nat.reduceBEq, Nat.reduceAdd, Nat.reduceSub, Nat.reduceMul, Nat.reduceLeDiff, reduceCtorEq, ↓reduceIte, Int.reduceLT, Int.reduceLE, Int.reduceEq, Int.reduceNe]
  have hb40 : b ≤ 40 := by omega
  rw [shl_one b hb40]
  simp only [go_sem, Nat.reduceBEq, Nat.reduceAdd, Nat.reduceSub, Nat.reduceMul, Nat.reduceLeDiff, reduceCtorEq, ↓reduceIte, Int.reduceLT, Int.reduceLE, Int.reduceEq, Int.reduceNe]
  refine ⟨by omega, fun hlt => ?_, fun hge => ?_⟩
  · have hf : f ≠ 0 := by
      intro h0
      subst h0
      have : b = 40 := by omega
      subst this
      omega
    obtain ⟨f, rfl⟩ := Nat.exists_eq_succ_of_ne_zero hf
    refine ⟨f, by omega, Up.here ⟨rfl, b + 1, ?_, by omega, ?_⟩⟩
    · rw [wrap_id (by omega) (by omega)]; rfl
    · rw [← hb]
      have : 2 ^ b < m := by exact_mod_cast hlt
      simp [bitsG, this]
  · have hbits : bitsG m 40 0 = b := by
      rw [← hb]
      have : ¬ 2 ^ b < m := by intro q; exact hge (by exact_mod_cast q)
      cases f <;> simp [bitsG, this]
    -- chunk after chunk
    refine s_loop (fun f vs Γ => Γ = [] ∧ ∃ used : Nat, vs = [.v true (.int .i64 used)] ∧ used ≤ coins.length ∧ coins.length < f + used ∧ coinsG m b coins f used = coinsF m coins) (coins.length + 1)
      (Up.here ⟨rfl, 0, rfl, by omega, by omega, by rw [coinsF, hbits]⟩) ?_
    rintro f vs Γ ⟨rfl, used, rfl, hu, hfu, hres⟩
    simp only [S21_5, go_sem, Nat.reduceBEq, Nat.reduceAdd, Nat.reduceSub, Nat.reduceMul, Nat.reduceLeDiff, reduceCtorEq, ↓reduceIte, Int.reduceLT, Int.reduceLE, Int.reduceEq, Int.reduceNe]
    obtain ⟨f, rfl⟩ : ∃ k, f = k + 1 := ⟨f - 1, by omega⟩
    rw [wrap_id (by omega) (by omega)]
    simp only [coinsG] at hres
    refine ⟨fun hle => ?_, fun hgt => ?_⟩
    · have hle' : used + b ≤ coins.length := by omega
      rw [if_pos hle'] at hres
      refine s_slice used (used + b) ?_ ?_ (by omega) (by have := hc.cap; omega) ?_
      · simp only [go_sem, Nat.reduceBEq, Nat.reduceAdd, Nat.reduceSub, Nat.reduceMul, Nat.reduceLeDiff, reduceCtorEq, ↓reduceIte, Int.reduceLT, Int.reduceLE, Int.reduceEq, Int.reduceNe]
        exact ⟨.i64, rfl⟩
      · simp only [go_sem, Nat.reduceBEq, Nat.reduceAdd, Nat.reduceSub, Nat.reduceMul, Nat.reduceLeDiff, reduceCtorEq, ↓reduceIte, Int.reduceLT, Int.reduceLE, Int.reduceEq, Int.reduceNe]
        exact ⟨.i64, by simp⟩
      simp only [go_sem, Nat.reduceBEq, Nat.reduceAdd, Nat.reduceSub, Nat.reduceMul, Nat.reduceLeDiff, reduceCtorEq, ↓reduceIte, Int.reduceLT, Int.reduceLE, Int.reduceEq, Int.reduceNe]
      have hsl := hc.slice (l := used) (m := used + b) (by omega) hle'
      have hck : (coins.take (used + b)).drop used = (coins.drop used).take b := by
        rw [← List.take_drop]
      rw [hck] at hsl
      obtain ⟨ch, hch⟩ : ∃ ch, ch = (coins.drop used).take b := ⟨_, rfl⟩
      have hcl : ch.length = b := by rw [hch]; simp; omega
      rw [← hch] at hsl hres
      obtain ⟨A', hA'⟩ : ∃ A', A' = (if c = used then A else A.map (fun x => x.add used)) := ⟨_, rfl⟩
      have hsl' : SlOk (lk Γr) A' (c - used) ch := by rw [hA']; simpa [Rep.sz] using hsl
      rw [← hA', show used + b - used = b by omega]
      -- the number that the chunk tells
      refine s_loop (fun g vs Γ => Γ = [] ∧ ∃ j : Nat, vs = [.v true (.int .i64 (bval (ch.take j) : Nat)), .v true (.int .i64 j)] ∧ j + g = b) b
        (Up.here ⟨rfl, 0, by simp [bval, looks, look], by omega⟩) ?_
      rintro g vs Γ ⟨rfl, j, rfl, hjg⟩
      have hbv := bval_lt (ch.take j)
      have hb2 : 2 ^ (ch.take j).length ≤ 2 ^ 40 := Nat.pow_le_pow_right (by omega) (by simp; omega)
      simp only [S21_4, go_sem, Nat.reduceBEq, Nat.reduceAdd, Nat.reduceSub, Nat.reduceMul, Nat.reduceLeDiff, reduceCtorEq, ↓reduceIte, Int.reduceLT, Int.reduceLE, Int.reduceEq, Int.reduceNe]
      refine ⟨fun hlt => ?_, fun hge2 => ?_⟩
      · have hj : j < b := by omega
        have hjc : j < ch.length := by omega
        refine s_split ?_
        obtain ⟨bb, oo, rfl, cs, hok, hcells⟩ := hsl'.elem (i := j) (x := ch[j]) (List.getElem?_eq_getElem hjc)
        obtain rfl := ok_bool hok
        simp only [S21_2, S21_3, go_sem, Nat.reduceBEq, Nat.reduceAdd, Nat.reduceSub, Nat.reduceMul, Nat.reduceLeDiff, reduceCtorEq, ↓reduceIte, Int.reduceLT, Int.reduceLE, Int.reduceEq, Int.reduceNe]
        refine s_idx rfl (by omega) (by omega) ?_
        simp only [go_sem, Nat.reduceBEq, Nat.reduceAdd, Nat.reduceSub, Nat.reduceMul, Nat.reduceLeDiff, reduceCtorEq, ↓reduceIte, Int.reduceLT, Int.reduceLE, Int.reduceEq, Int.reduceNe]
        refine s_load (vs := [.bool ch[j]]) (by simpa [Rep.sz] using hcells _ (Mem.le.refl _)) ?_
        simp only [go_sem, Nat.reduceBEq, Nat.reduceAdd, Nat.reduceSub, Nat.reduceMul, Nat.reduceLeDiff, reduceCtorEq, ↓reduceIte, Int.reduceLT, Int.reduceLE, Int.reduceEq, Int.reduceNe]
        have w1 : IntKind.i64.wrap (((bval (ch.take j) : Nat) : Int) * 2) = ((bval (ch.take j) : Nat) : Int) * 2 := wrap_id (by omega) (by omega)
        have w2 : IntKind.i64.wrap (((bval (ch.take j) : Nat) : Int) * 2 + 1) = ((bval (ch.take j) : Nat) : Int) * 2 + 1 := wrap_id (by omega) (by omega)
        have w3 : IntKind.i64.wrap ((j : Int) + 1) = (j : Int) + 1 := wrap_id (by omega) (by omega)
        simp only [w1, w2, w3]
        have htake : ch.take (j + 1) = ch.take j ++ [ch[j]] := by rw [List.take_succ_eq_append_getElem hjc]
        have hstep : bval (ch.take (j + 1)) = 2 * bval (ch.take j) + ch[j].toNat := by rw [htake, bval_snoc]
        refine ⟨fun ht => ?_, fun ht => ?_⟩
        · refine Up.here ⟨g - 1, by omega, Up.here ⟨rfl, j + 1, ?_, by omega⟩⟩
          rw [hstep, ht]
          simp
          omega
        · refine Up.here ⟨g - 1, by omega, Up.here ⟨rfl, j + 1, ?_, by omega⟩⟩
          rw [hstep, ht]
          simp
          omega
      · have hj : j = b := by omega
        subst hj
        have htk : ch.take j = ch := by rw [← hcl]; exact List.take_length
        rw [htk]
        rw [wrap_id (by omega) (by omega)]
        refine ⟨fun hlt => ?_, fun hge3 => ?_⟩
        · have : bval ch < m := by exact_mod_cast hlt
          rw [if_pos this] at hres
          refine Up.here ?_
          subst hR
          refine ⟨rfl, ?_⟩
          rw [if_neg hno]
          simp [← hres]
        · have : ¬ bval ch < m := by intro q; exact hge3 (by exact_mod_cast q)
          rw [if_neg this] at hres
          have hjpos : 0 < j := by
            rcases Nat.eq_zero_or_pos j with q | q
            · subst q
              have : ch = [] := List.eq_nil_of_length_eq_zero hcl
              subst this
              simp [bval] at hge3
              omega
            · exact q
          exact ⟨f, by omega, Up.here ⟨rfl, used + j, by simp, hle', by omega, hres⟩⟩
    · have hgt' : ¬ used + b ≤ coins.length := by omega
      rw [if_neg hgt'] at hres
      refine Up.here ?_
      subst hR
      refine ⟨rfl, ?_⟩
      rw [if_neg hno]
      simp [← hres]

theorem ref_coins {Γr : Ctx} (m : Nat) (hm0 : 1 ≤ m) (hm1 : m ≤ 1000000000) (A : Option Addr) (c : Nat) (coins : List Bool) (hc : SlOk (lk Γr) A c coins) :
    Ret Try.prog 22 [.int .i64 m, .slice A coins.length c] Γr [] (fun v Γ => Γ = [] ∧
      v = match coinsF m coins with
        | some (x, u) => .tuple #[.int .i64 x, .int .i64 u, .bool true]
        | none => .tuple #[.int .i64 0, .int .i64 0, .bool false]) := by
  generalize hR : (fun v Γ => Γ = [] ∧ v = _) = R
  refine ret_of_vc tr22 (Nat.le_of_ble_eq_true rfl) ?_
  simp only [S22, S22_0, go_sem, Nat.reduceBEq, Nat.reduceAdd, Nat.reduceSub, Nat.reduceMul, Nat.reduceLeDiff, reduceCtorEq, ↓reduceIte, Int.reduceLT, Int.reduceLE, Int.reduceEq, Int.reduceNe]
  have hlen := hc.short
  refine s_loop (fun f vs Γ => Γ = [] ∧ ∃ b : Nat, vs = [.v true (.int .i64 b), .v true (.int .i64 (2 ^ b : Nat))] ∧ b + f = 40 ∧ bitsG m f b = bitsG m 40 0) 40 (Up.here ⟨rfl, 0, rfl, rfl, rfl⟩) ?_
  rintro f vs Γ ⟨rfl, b, rfl, hbf, hb⟩
  have hb40 : b ≤ 40 := by omega
  have hpow : 2 ^ b ≤ 2 ^ 40 := Nat.pow_le_pow_right (by omega) hb40
  simp only [S22_1, go_sem, Nat.reduceBEq, Nat.reduceAdd, Nat.reduceSub, Nat.reduceMul, Nat.reduceLeDiff, reduceCtorEq, ↓reduceIte, Int.reduceLT, Int.reduceLE, Int.reduceEq, Int.reduceNe]
  refine ⟨fun hlt => ?_, fun hge => ?_⟩
  · have hlt' : 2 ^ b < m := by exact_mod_cast hlt
    have hf : f ≠ 0 := by
      intro h0
      subst h0
      have : b = 40 := by omega
      subst this
      omega
    obtain ⟨f, rfl⟩ := Nat.exists_eq_succ_of_ne_zero hf
    refine ⟨f, by omega, Up.here ⟨rfl, b + 1, ?_, by omega, ?_⟩⟩
    · have hq : IntKind.i64.wrap (((2 ^ b : Nat) : Int) * 2) = ((2 ^ (b + 1) : Nat) : Int) := by
        rw [Nat.pow_succ]
        obtain ⟨p, hp⟩ : ∃ p, p = 2 ^ b := ⟨_, rfl⟩
        rw [← hp] at hpow ⊢
        rw [wrap_id (by omega) (by omega)]
        rfl
      have hq2 : IntKind.i64.wrap ((b : Int) + 1) = ((b + 1 : Nat) : Int) := wrap_id (by omega) (by omega)
      rw [hq, hq2]
    · rw [← hb]
      simp [bitsG, hlt']
  · have hge' : ¬ 2 ^ b < m := by intro q; exact hge (by exact_mod_cast q)
    have hbits : bitsG m 40 0 = b := by
      rw [← hb]
      cases f <;> simp [bitsG, hge']
    refine s_loop (fun f vs Γ => Γ = [] ∧ ∃ i used : Nat, vs = [.v true (.int .i64 i)] ∧ used = i * b ∧ i ≤ used ∧ used ≤ coins.length ∧ coins.length < f + used ∧ coinsG m b coins f used = coinsF m coins) (coins.length + 1)
      (Up.here ⟨rfl, 0, 0, rfl, by omega, by omega, by omega, by omega, by rw [coinsF, hbits]⟩) ?_
    rintro f vs Γ ⟨rfl, i, used, rfl, hui, hiu, hu, hfu, hres⟩
    have wi : IntKind.i64.wrap ((i : Int) * (b : Int)) = (used : Int) := by
      have : (i : Int) * (b : Int) = (used : Int) := by rw [hui]; simp
      rw [this]
      exact wrap_id (by omega) (by omega)
    simp only [S22_5, wi, go_sem, Nat.reduceBEq, Nat.reduceAdd, Nat.reduceSub, Nat.reduceMul, Nat.reduceLeDiff, reduceCtorEq, ↓reduceIte, Int.reduceLT, Int.reduceLE, Int.reduceEq, Int.reduceNe]
    obtain ⟨f, rfl⟩ : ∃ k, f = k + 1 := ⟨f - 1, by omega⟩
    simp only [coinsG] at hres
    refine ⟨fun _ => ?_, fun hgt => by omega⟩
    refine s_slice used coins.length ?_ ?_ (by omega) hc.cap ?_
    · simp only [go_sem, Nat.reduceBEq, Nat.reduceAdd, Nat.reduceSub, Nat.reduceMul, Nat.reduceLeDiff, reduceCtorEq, ↓reduceIte, Int.reduceLT, Int.reduceLE, Int.reduceEq, Int.reduceNe]
      exact ⟨.i64, rfl⟩
    · simp only [go_sem, Nat.reduceBEq, Nat.reduceAdd, Nat.reduceSub, Nat.reduceMul, Nat.reduceLeDiff, reduceCtorEq, ↓reduceIte, Int.reduceLT, Int.reduceLE, Int.reduceEq, Int.reduceNe]
    simp only [go_sem, Nat.reduceBEq, Nat.reduceAdd, Nat.reduceSub, Nat.reduceMul, Nat.reduceLeDiff, reduceCtorEq, ↓reduceIte, Int.reduceLT, Int.reduceLE, Int.reduceEq, Int.reduceNe]
    have hsl := hc.slice (l := used) (m := coins.length) (by omega) (Nat.le_refl _)
    rw [List.take_length] at hsl
    refine ⟨fun hshort => ?_, fun hlong => ?_⟩
    · have : ¬ used + b ≤ coins.length := by omega
      rw [if_neg this] at hres
      refine Up.here ?_
      subst hR
      exact ⟨rfl, by simp [← hres]⟩
    have hle' : used + b ≤ coins.length := by omega
    rw [if_pos hle'] at hres
    obtain ⟨A', hA'⟩ : ∃ A', A' = (if c = used then A else A.map (fun x => x.add used)) := ⟨_, rfl⟩
    have hsl' : SlOk (lk Γr) A' (c - used) (coins.drop used) := by rw [hA']; simpa [Rep.sz] using hsl
    rw [← hA']
    obtain ⟨ch, hch⟩ : ∃ ch, ch = (coins.drop used).take b := ⟨_, rfl⟩
    have hcl : ch.length = b := by rw [hch]; simp; omega
    rw [← hch] at hres
    -- the sum of what the coins are worth
    refine s_loop (fun g vs Γ => Γ = [] ∧ ∃ j : Nat, vs = [.v true (.int .i64 (bval (ch.take j) * 2 ^ (b - j) : Nat)), .v true (.int .i64 j)] ∧ j + g = b) b
      (Up.here ⟨rfl, 0, by simp [bval, looks, look], by omega⟩) ?_
    rintro g vs Γ ⟨rfl, j, rfl, hjg⟩
    have hbv := bval_lt (ch.take j)
    have hbnd : bval (ch.take j) * 2 ^ (b - j) + 2 ^ (b - j) ≤ 2 ^ 40 := by
      have h1 : (bval (ch.take j) + 1) * 2 ^ (b - j) ≤ 2 ^ j * 2 ^ (b - j) := Nat.mul_le_mul_right _ (by
        have : (ch.take j).length = j := by simp; omega
        rw [this] at hbv
        omega)
      rw [← Nat.pow_add, show j + (b - j) = b by omega, Nat.add_mul, Nat.one_mul] at h1
      omega
    simp only [S22_4, go_sem, Nat.reduceBEq, Nat.reduceAdd, Nat.reduceSub, Nat.reduceMul, Nat.reduceLeDiff, reduceCtorEq, ↓reduceIte, Int.reduceLT, Int.reduceLE, Int.reduceEq, Int.reduceNe]
    refine ⟨fun hlt => ?_, fun hge2 => ?_⟩
    · have hj : j < b := by omega
      have hjc : j < ch.length := by omega
      have hjd : j < (coins.drop used).length := by simp; omega
      have hcj : (coins.drop used)[j] = ch[j] := by simp [hch]
      refine s_split ?_
      obtain ⟨bb, oo, rfl, cs, hok, hcells⟩ := hsl'.elem (i := j) (x := ch[j]) (by rw [← hcj]; exact List.getElem?_eq_getElem hjd)
      obtain rfl := ok_bool hok
      have w1 : IntKind.i64.wrap ((b : Int) - 1) = (b : Int) - 1 := wrap_id (by omega) (by omega)
      have w2 : IntKind.i64.wrap ((b : Int) - 1 - (j : Int)) = ((b - 1 - j : Nat) : Int) := by rw [wrap_id (by omega) (by omega)]; omega
      have w3 : IntKind.i64.wrap ((j : Int) + 1) = ((j + 1 : Nat) : Int) := wrap_id (by omega) (by omega)
      have hsplit : 2 ^ (b - j) = 2 ^ (b - 1 - j) * 2 := by rw [← Nat.pow_succ]; congr 1; omega
      have w4 : IntKind.i64.wrap (((bval (ch.take j) * 2 ^ (b - j) : Nat) : Int) + ((2 ^ (b - 1 - j) : Nat) : Int)) = ((bval (ch.take j) * 2 ^ (b - j) + 2 ^ (b - 1 - j) : Nat) : Int) := by
        rw [wrap_id (by omega) (by omega)]; rfl
      have htake : ch.take (j + 1) = ch.take j ++ [ch[j]] := by rw [List.take_succ_eq_append_getElem hjc]
      have hstep : bval (ch.take (j + 1)) = 2 * bval (ch.take j) + ch[j].toNat := by rw [htake, bval_snoc]
      have hexp : b - (j + 1) = b - 1 - j := by omega
      have hnext : bval (ch.take (j + 1)) * 2 ^ (b - (j + 1)) = bval (ch.take j) * 2 ^ (b - j) + ch[j].toNat * 2 ^ (b - 1 - j) := by
        rw [hstep, hexp, hsplit, Nat.add_mul, Nat.mul_comm 2, Nat.mul_assoc, Nat.mul_comm 2]
      simp only [S22_2, S22_3, go_sem, Nat.reduceBEq, Nat.reduceAdd, Nat.reduceSub, Nat.reduceMul, Nat.reduceLeDiff, reduceCtorEq, ↓reduceIte, Int.reduceLT, Int.reduceLE, Int.reduceEq, Int.reduceNe]
      refine s_idx rfl (by omega) (by simp; omega) ?_
      simp only [go_sem, Nat.reduceBEq, Nat.reduceAdd, Nat.reduceSub, Nat.reduceMul, Nat.reduceLeDiff, reduceCtorEq, ↓reduceIte, Int.reduceLT, Int.reduceLE, Int.reduceEq, Int.reduceNe]
      refine s_load (vs := [.bool ch[j]]) (by simpa [Rep.sz] using hcells _ (Mem.le.refl _)) ?_
      simp only [w1, w2, shl_one (b - 1 - j) (by omega), w3, w4, go_sem, Nat.reduceBEq, Nat.reduceAdd, Nat.reduceSub, Nat.reduceMul, Nat.reduceLeDiff, reduceCtorEq, ↓reduceIte, Int.reduceLT, Int.reduceLE, Int.reduceEq, Int.reduceNe]
      refine ⟨fun ht => ⟨by omega, ?_⟩, fun ht => ?_⟩
      · refine Up.here ⟨g - 1, by omega, Up.here ⟨rfl, j + 1, ?_, by omega⟩⟩
        rw [hnext, ht]
        simp
      · refine Up.here ⟨g - 1, by omega, Up.here ⟨rfl, j + 1, ?_, by omega⟩⟩
        rw [hnext, ht]
        simp
    · have hj : j = b := by omega
      subst hj
      have htk : ch.take j = ch := by rw [← hcl]; exact List.take_length
      rw [htk]
      simp only [Nat.sub_self, Nat.pow_zero, Nat.mul_one]
      have hx : bval ch < 2 ^ j := by have := bval_lt ch; rwa [hcl] at this
      have hjle : 2 ^ j ≤ 2 ^ 40 := Nat.pow_le_pow_right (by omega) (by omega)
      refine ⟨fun hlt => ?_, fun hge3 => ?_⟩
      · have : bval ch < m := by exact_mod_cast hlt
        rw [if_pos this] at hres
        have w5 : IntKind.i64.wrap ((i : Int) + 1) = ((i + 1 : Nat) : Int) := wrap_id (by omega) (by omega)
        have w6 : IntKind.i64.wrap (((i + 1 : Nat) : Int) * (j : Int)) = ((used + j : Nat) : Int) := by
          have : ((i + 1 : Nat) : Int) * (j : Int) = ((used + j : Nat) : Int) := by rw [hui, ← Nat.add_one_mul]; simp
          rw [this]
          exact wrap_id (by omega) (by omega)
        rw [w5, w6]
        refine Up.here ?_
        subst hR
        exact ⟨rfl, by simp [← hres]⟩
      · have : ¬ bval ch < m := by intro q; exact hge3 (by exact_mod_cast q)
        rw [if_neg this] at hres
        have hjpos : 0 < j := by
          rcases Nat.eq_zero_or_pos j with q | q
          · subst q
            have : ch = [] := List.eq_nil_of_length_eq_zero hcl
            subst this
            simp [bval] at hge3
            omega
          · exact q
        refine ⟨f, by omega, Up.here ⟨rfl, i + 1, used + j, by simp; exact wrap_id (by omega) (by omega), by rw [hui, Nat.add_mul, Nat.one_mul], by omega, hle', by omega, hres⟩⟩
end Go.Proofs.Ytniobbepliknmaa.V
/- The text of slices.Equal[[]int,int] as a statement (slots: 0 s1, 1 s2, 2 s1, 3 s2, 5 i); no condition. -/
namespace Go.Proofs.Ytniobbepliknmaa.V
open Go
def S28_1 : Stmt :=
  Stmt.seq
  (Stmt.region [SOper.mk (some 14) none (SOp.ibin BinOp.lss (Operand.tmp 13) (Operand.tmp 12))] [0, 1, 12, 13, 14])
  (Stmt.seq (Stmt.cond (Operand.tmp 14) Stmt.skip (Stmt.exit 0))
    (Stmt.seq
      (Stmt.block 1
        (Stmt.seq
          (Stmt.region
            [SOper.mk (some 15) none (SOp.mv (Operand.tmp 13)), SOper.mk (some 5) none (SOp.mv (Operand.tmp 15))]
            [0, 1, 5, 12, 13])
          (Stmt.seq
            (Stmt.quiet
              [SOper.mk (some 16) none (SOp.mv (Operand.tmp 0)), SOper.mk (some 17) none (SOp.mv (Operand.tmp 5)),
                SOper.mk (some 18) none (SOp.idx 1 (Operand.tmp 16) (Operand.tmp 17)),
                SOper.mk (some 19) none (SOp.load false 1 (Operand.tmp 18)),
                SOper.mk (some 20) none (SOp.mv (Operand.tmp 1)), SOper.mk (some 21) none (SOp.mv (Operand.tmp 5)),
                SOper.mk (some 22) none (SOp.idx 1 (Operand.tmp 20) (Operand.tmp 21)),
                SOper.mk (some 23) none (SOp.load false 1 (Operand.tmp 22)),
                SOper.mk (some 24) none (SOp.ibin BinOp.neq (Operand.tmp 19) (Operand.tmp 23))]
              [0, 1, 12, 13, 24])
            (Stmt.cond (Operand.tmp 24)
              (Stmt.seq (Stmt.region [SOper.mk (some 4) none (SOp.mv (Operand.const (Value.bool false)))] [4]) Stmt.ret)
              Stmt.skip))))
      (Stmt.region
        [SOper.mk (some 25) none (SOp.ibin BinOp.add (Operand.tmp 13) (Operand.const (Value.int IntKind.i64 1))),
          SOper.mk (some 13) none (SOp.mv (Operand.tmp 25))]
        [0, 1, 12, 13])))
def S28_0 : Stmt :=
  Stmt.seq (Stmt.region [SOper.mk (some 4) none (SOp.mv (Operand.const (Value.bool false)))] [0, 1])
  (Stmt.seq
    (Stmt.seq
      (Stmt.region
        [SOper.mk (some 6) none (SOp.mv (Operand.tmp 0)), SOper.mk (some 7) none (SOp.len false (Operand.tmp 6)),
          SOper.mk (some 8) none (SOp.mv (Operand.tmp 1)), SOper.mk (some 9) none (SOp.len false (Operand.tmp 8)),
          SOper.mk (some 10) none (SOp.ibin BinOp.neq (Operand.tmp 7) (Operand.tmp 9))]
        [0, 1, 10])
      (Stmt.cond (Operand.tmp 10)
        (Stmt.seq (Stmt.region [SOper.mk (some 4) none (SOp.mv (Operand.const (Value.bool false)))] [4]) Stmt.ret)
        Stmt.skip))
    (Stmt.seq
      (Stmt.seq
        (Stmt.region
          [SOper.mk (some 11) none (SOp.mv (Operand.tmp 0)), SOper.mk (some 12) none (SOp.len false (Operand.tmp 11)),
            SOper.mk (some 13) none (SOp.mv (Operand.const (Value.int IntKind.i64 0)))]
          [0, 1, 12, 13])
        (Stmt.block 0 (Stmt.loop S28_1 [13] [0, 1, 12])))
      (Stmt.seq (Stmt.region [SOper.mk (some 4) none (SOp.mv (Operand.const (Value.bool true)))] [4]) Stmt.ret)))
def S28 : FnS := ⟨26, [(4, none)], S28_0⟩
theorem tr28 : trFn Try.prog 28 [] [[0, 1], [0, 1, 10], [4], [0, 1, 12, 13], [13], [0, 1, 12], [0, 1, 12, 13, 14], [0, 1, 5, 12, 13], [0, 1, 12, 13, 24], [4], [0, 1, 12, 13], [4]] = some S28 := by kernel_rfl
end Go.Proofs.Ytniobbepliknmaa.V
/- The text of slices.Delete[[]int,int] as a statement (slots: 0 s, 1 i, 2 j, 3 s, 4 i, 5 j, 7 oldlen); no condition. -/
namespace Go.Proofs.Ytniobbepliknmaa.V
open Go
def S29_0 : Stmt :=
  Stmt.seq (Stmt.region [SOper.mk (some 6) none (SOp.mv (Operand.const (Value.slice none 0 0)))] [0, 1, 2])
  (Stmt.seq
    (Stmt.region
      [SOper.mk (some 8) none (SOp.mv (Operand.tmp 0)), SOper.mk (some 9) none (SOp.mv (Operand.tmp 1)),
        SOper.mk (some 10) none (SOp.mv (Operand.tmp 2)), SOper.mk (some 11) none (SOp.mv (Operand.tmp 0)),
        SOper.mk (some 12) none (SOp.len false (Operand.tmp 11)),
        SOper.mk (some 13) none
          (SOp.q (Qk.slc 29 true true true) [Operand.tmp 8, Operand.tmp 9, Operand.tmp 10, Operand.tmp 12])]
      [0, 1, 2])
    (Stmt.seq
      (Stmt.seq
        (Stmt.region
          [SOper.mk (some 14) none (SOp.mv (Operand.tmp 1)), SOper.mk (some 15) none (SOp.mv (Operand.tmp 2)),
            SOper.mk (some 16) none (SOp.ibin BinOp.eql (Operand.tmp 14) (Operand.tmp 15))]
          [0, 1, 2, 16])
        (Stmt.cond (Operand.tmp 16)
          (Stmt.seq
            (Stmt.region
              [SOper.mk (some 17) none (SOp.mv (Operand.tmp 0)), SOper.mk (some 6) none (SOp.mv (Operand.tmp 17))] [6])
            Stmt.ret)
          Stmt.skip))
      (Stmt.seq
        (Stmt.region
          [SOper.mk (some 18) none (SOp.mv (Operand.tmp 0)), SOper.mk (some 19) none (SOp.len false (Operand.tmp 18)),
            SOper.mk (some 7) none (SOp.mv (Operand.tmp 19))]
          [0, 1, 2, 7])
        (Stmt.seq
          (Stmt.drawn
            [(false, SOper.mk (some 20) none (SOp.mv (Operand.tmp 0))),
              (false, SOper.mk (some 21) none (SOp.mv (Operand.tmp 1))),
              (false, SOper.mk (some 22) none (SOp.slc 1 (Operand.tmp 20) none (some (Operand.tmp 21)) none)),
              (false, SOper.mk (some 23) none (SOp.mv (Operand.tmp 0))),
              (false, SOper.mk (some 24) none (SOp.mv (Operand.tmp 2))),
              (false, SOper.mk (some 25) none (SOp.slc 1 (Operand.tmp 23) (some (Operand.tmp 24)) none none)),
              (false,
                SOper.mk (some 26) none
                  (SOp.append 29 3 1 8 (Value.int IntKind.i64 0) (Operand.tmp 22) (Operand.tmp 25))),
              (false, SOper.mk (some 0) none (SOp.mv (Operand.tmp 26)))]
            [0, 7])
          (Stmt.seq
            (Stmt.region
              [SOper.mk (some 27) none (SOp.mv (Operand.tmp 0)), SOper.mk (some 28) none (SOp.mv (Operand.tmp 0)),
                SOper.mk (some 29) none (SOp.len false (Operand.tmp 28)),
                SOper.mk (some 30) none (SOp.mv (Operand.tmp 7)),
                SOper.mk (some 31) none
                  (SOp.slc 1 (Operand.tmp 27) (some (Operand.tmp 29)) (some (Operand.tmp 30)) none),
                SOper.mk none none (SOp.a (Qk.bi 1 [29]) [Operand.tmp 31])]
              [0])
            (Stmt.seq
              (Stmt.region
                [SOper.mk (some 32) none (SOp.mv (Operand.tmp 0)), SOper.mk (some 6) none (SOp.mv (Operand.tmp 32))]
                [6])
              Stmt.ret))))))
def S29 : FnS := ⟨33, [(6, none)], S29_0⟩
theorem tr29 : trFn Try.prog 29 [] [[0, 1, 2], [0, 1, 2], [0, 1, 2, 16], [6], [0, 1, 2, 7], [0, 7], [0, 1, 2, 3, 4, 5, 6, 7], [], [], [], [0, 1], [], [], [3, 4], [0, 1, 2, 3, 4, 5], [0, 1, 2, 3, 4, 5, 6], [0], [6]] = some S29 := by kernel_rfl
end Go.Proofs.Ytniobbepliknmaa.V
/- The text of parlance/draw.Order as a statement (slots: 0 n, 1 coins, 2 n, 3 coins, 7 left, 8 out, 9 i, 10 used, 11 i, 12 k, 13 e); no condition. -/
namespace Go.Proofs.Ytniobbepliknmaa.V
open Go
def S27_1 : Stmt :=
  Stmt.seq
  (Stmt.region [SOper.mk (some 22) none (SOp.ibin BinOp.lss (Operand.tmp 21) (Operand.tmp 20))] [1, 7, 8, 20, 21, 22])
  (Stmt.seq (Stmt.cond (Operand.tmp 22) Stmt.skip (Stmt.exit 0))
    (Stmt.seq
      (Stmt.block 1
        (Stmt.seq
          (Stmt.region
            [SOper.mk (some 23) none (SOp.mv (Operand.tmp 21)), SOper.mk (some 9) none (SOp.mv (Operand.tmp 23))]
            [1, 7, 8, 9, 20, 21])
          (Stmt.region
            [SOper.mk (some 24) none (SOp.mv (Operand.tmp 7)), SOper.mk (some 25) none (SOp.mv (Operand.tmp 9)),
              SOper.mk (some 26) none (SOp.buildS 3 1 [Value.int IntKind.i64 0] [(0, 1, Operand.tmp 25)]),
              SOper.mk (some 27) none (SOp.append 29 3 1 8 (Value.int IntKind.i64 0) (Operand.tmp 24) (Operand.tmp 26)),
              SOper.mk (some 7) none (SOp.mv (Operand.tmp 27))]
            [1, 7, 8, 20, 21])))
      (Stmt.region
        [SOper.mk (some 28) none (SOp.ibin BinOp.add (Operand.tmp 21) (Operand.const (Value.int IntKind.i64 1))),
          SOper.mk (some 21) none (SOp.mv (Operand.tmp 28))]
        [1, 7, 8, 20, 21])))
def S27_2 : Stmt :=
  Stmt.seq
  (Stmt.seq
    (Stmt.region
      [SOper.mk (some 29) none (SOp.mv (Operand.tmp 7)), SOper.mk (some 30) none (SOp.len false (Operand.tmp 29)),
        SOper.mk (some 31) none (SOp.ibin BinOp.gtr (Operand.tmp 30) (Operand.const (Value.int IntKind.i64 0)))]
      [1, 7, 8, 10, 31])
    (Stmt.cond (Operand.tmp 31) Stmt.skip (Stmt.exit 2)))
  (Stmt.block 3
    (Stmt.seq
      (Stmt.region
        [SOper.mk (some 33) none (SOp.mv (Operand.tmp 7)), SOper.mk (some 34) none (SOp.len false (Operand.tmp 33)),
          SOper.mk (some 35) none (SOp.mv (Operand.tmp 1)), SOper.mk (some 36) none (SOp.mv (Operand.tmp 10)),
          SOper.mk (some 37) none (SOp.slc 1 (Operand.tmp 35) (some (Operand.tmp 36)) none none),
          SOper.mk (some 38) none (SOp.call (Operand.func 21) [Operand.tmp 34, Operand.tmp 37]),
          SOper.mk (some 32) none (SOp.mv (Operand.tmp 38)), SOper.mk (some 39) none (SOp.extract 0 (Operand.tmp 32)),
          SOper.mk (some 40) none (SOp.extract 1 (Operand.tmp 32)),
          SOper.mk (some 41) none (SOp.extract 2 (Operand.tmp 32)), SOper.mk (some 11) none (SOp.mv (Operand.tmp 39)),
          SOper.mk (some 12) none (SOp.mv (Operand.tmp 40)), SOper.mk (some 13) none (SOp.mv (Operand.tmp 41))]
        [1, 7, 8, 10, 11, 12, 13])
      (Stmt.seq
        (Stmt.seq
          (Stmt.region
            [SOper.mk (some 42) none (SOp.mv (Operand.tmp 13)),
              SOper.mk (some 43) none (SOp.ibin BinOp.neq (Operand.tmp 42) (Operand.const (Value.int IntKind.i64 0)))]
            [1, 7, 8, 10, 11, 12, 13, 43])
          (Stmt.cond (Operand.tmp 43)
            (Stmt.seq
              (Stmt.region
                [SOper.mk (some 44) none (SOp.mv (Operand.tmp 13)),
                  SOper.mk (some 4) none (SOp.mv (Operand.const (Value.slice none 0 0))),
                  SOper.mk (some 5) none (SOp.mv (Operand.const (Value.int IntKind.i64 0))),
                  SOper.mk (some 6) none (SOp.mv (Operand.tmp 44))]
                [4, 5, 6])
              Stmt.ret)
            Stmt.skip))
        (Stmt.seq
          (Stmt.region
            [SOper.mk (some 45) none (SOp.mv (Operand.tmp 10)), SOper.mk (some 46) none (SOp.mv (Operand.tmp 12)),
              SOper.mk (some 47) none (SOp.ibin BinOp.add (Operand.tmp 45) (Operand.tmp 46)),
              SOper.mk (some 10) none (SOp.mv (Operand.tmp 47))]
            [1, 7, 8, 10, 11])
          (Stmt.seq
            (Stmt.region
              [SOper.mk (some 48) none (SOp.mv (Operand.tmp 8)), SOper.mk (some 49) none (SOp.mv (Operand.tmp 7)),
                SOper.mk (some 50) none (SOp.mv (Operand.tmp 11)),
                SOper.mk (some 51) none (SOp.idx 1 (Operand.tmp 49) (Operand.tmp 50)),
                SOper.mk (some 52) none (SOp.load false 1 (Operand.tmp 51)),
                SOper.mk (some 53) none (SOp.buildS 3 1 [Value.int IntKind.i64 0] [(0, 1, Operand.tmp 52)]),
                SOper.mk (some 54) none
                  (SOp.append 29 3 1 8 (Value.int IntKind.i64 0) (Operand.tmp 48) (Operand.tmp 53)),
                SOper.mk (some 8) none (SOp.mv (Operand.tmp 54))]
              [1, 7, 8, 10, 11])
            (Stmt.drawn
              [(false, SOper.mk (some 55) none (SOp.mv (Operand.tmp 7))),
                (false, SOper.mk (some 56) none (SOp.mv (Operand.tmp 11))),
                (false, SOper.mk (some 57) none (SOp.slc 1 (Operand.tmp 55) none (some (Operand.tmp 56)) none)),
                (false, SOper.mk (some 58) none (SOp.mv (Operand.tmp 7))),
                (false, SOper.mk (some 59) none (SOp.mv (Operand.tmp 11))),
                (false,
                  SOper.mk (some 60) none
                    (SOp.ibin BinOp.add (Operand.tmp 59) (Operand.const (Value.int IntKind.i64 1)))),
                (false, SOper.mk (some 61) none (SOp.slc 1 (Operand.tmp 58) (some (Operand.tmp 60)) none none)),
                (false,
                  SOper.mk (some 62) none
                    (SOp.append 29 3 1 8 (Value.int IntKind.i64 0) (Operand.tmp 57) (Operand.tmp 61))),
                (false, SOper.mk (some 7) none (SOp.mv (Operand.tmp 62)))]
              [1, 7, 8, 10]))))))
def S27_0 : Stmt :=
  Stmt.seq
  (Stmt.region
    [SOper.mk (some 4) none (SOp.mv (Operand.const (Value.slice none 0 0))),
      SOper.mk (some 5) none (SOp.mv (Operand.const (Value.int IntKind.i64 0))),
      SOper.mk (some 6) none (SOp.mv (Operand.const (Value.int IntKind.i64 0)))]
    [0, 1])
  (Stmt.seq
    (Stmt.seq
      (Stmt.region
        [SOper.mk (some 14) none (SOp.mv (Operand.tmp 0)),
          SOper.mk (some 15) none (SOp.ibin BinOp.lss (Operand.tmp 14) (Operand.const (Value.int IntKind.i64 0))),
          SOper.mk (some 16) none (SOp.mv (Operand.tmp 15)),
          SOper.mk (some 17) (some (16, false)) (SOp.mv (Operand.tmp 0)),
          SOper.mk (some 18) (some (16, false))
            (SOp.ibin BinOp.gtr (Operand.tmp 17) (Operand.const (Value.int IntKind.i64 100))),
          SOper.mk (some 19) none (SOp.pick (Operand.tmp 16) (Operand.const (Value.bool true)) (Operand.tmp 18))]
        [0, 1, 19])
      (Stmt.cond (Operand.tmp 19)
        (Stmt.seq
          (Stmt.region
            [SOper.mk (some 4) none (SOp.mv (Operand.const (Value.slice none 0 0))),
              SOper.mk (some 5) none (SOp.mv (Operand.const (Value.int IntKind.i64 0))),
              SOper.mk (some 6) none (SOp.mv (Operand.const (Value.int IntKind.i64 1)))]
            [4, 5, 6])
          Stmt.ret)
        Stmt.skip))
    (Stmt.seq
      (Stmt.region
        [SOper.mk (some 7) none (SOp.mv (Operand.const (Value.slice none 0 0))),
          SOper.mk (some 8) none (SOp.mv (Operand.const (Value.slice none 0 0)))]
        [0, 1, 7, 8])
      (Stmt.seq
        (Stmt.seq
          (Stmt.region
            [SOper.mk (some 20) none (SOp.mv (Operand.tmp 0)),
              SOper.mk (some 21) none (SOp.mv (Operand.const (Value.int IntKind.i64 0)))]
            [1, 7, 8, 20, 21])
          (Stmt.block 0 (Stmt.loop S27_1 [7, 21] [1, 8, 20])))
        (Stmt.seq
          (Stmt.region [SOper.mk (some 10) none (SOp.mv (Operand.const (Value.int IntKind.i64 0)))] [1, 7, 8, 10])
          (Stmt.seq (Stmt.block 2 (Stmt.loop S27_2 [7, 8, 10] [1]))
            (Stmt.seq
              (Stmt.region
                [SOper.mk (some 63) none (SOp.mv (Operand.tmp 8)), SOper.mk (some 64) none (SOp.mv (Operand.tmp 10)),
                  SOper.mk (some 4) none (SOp.mv (Operand.tmp 63)), SOper.mk (some 5) none (SOp.mv (Operand.tmp 64)),
                  SOper.mk (some 6) none (SOp.mv (Operand.const (Value.int IntKind.i64 0)))]
                [4, 5, 6])
              Stmt.ret))))))
def S27 : FnS := ⟨65, [(4, none), (5, none), (6, none)], S27_0⟩
theorem tr27 : trFn Try.prog 27 [] [[0, 1], [0, 1, 19], [4, 5, 6], [0, 1, 7, 8], [1, 7, 8, 20, 21], [7, 21], [1, 8, 20], [1, 7, 8, 20, 21, 22], [1, 7, 8, 9, 20, 21], [1, 7, 8, 20, 21], [1, 7, 8, 20, 21], [1, 7, 8, 10], [7, 8, 10], [1], [1, 7, 8, 10, 31], [1, 7, 8, 10, 11, 12, 13], [1, 7, 8, 10, 11, 12, 13, 43], [4, 5, 6], [1, 7, 8, 10, 11], [1, 7, 8, 10, 11], [1, 7, 8, 10], [0, 1, 2, 3, 4, 5, 6, 7, 8], [], [], [], [0, 1], [], [], [4], [3, 4, 5], [0, 1, 2, 3, 4, 5, 6], [0, 1, 2, 3, 4, 5, 6, 7], [4, 5, 6]] = some S27 := by kernel_rfl
end Go.Proofs.Ytniobbepliknmaa.V
/- Orders by coins: slices.Equal, slices.Delete and draw.Order walked; no condition. -/
namespace Go.Proofs.Ytniobbepliknmaa.V
open Go
set_option linter.unusedVariables false
set_option linter.unusedSimpArgs false
attribute [local go_sem] e_seq e_region e_quiet e_join e_loop e_cond e_block e_exit e_ret e_skip e_fin e_kseq e_snrm e_sret e_sex e_bnrm e_bret e_bex e_rnrm e_rret e_res e_condC e_nil e_g e_mv g_mv e_pick g_pick pickC_eq e_ibin g_ibin ibinC_eq e_sbin g_sbin e_beq g_beq beqC_eq e_nilq g_nilq nilqC_sl nilqC_pt nilqC_mp e_un g_un unC_not unC_neg e_conv g_conv convC_eq e_fld g_fld fldC_ref fldC_ptr e_nilCheck g_nilCheck nilCheckC_ref nilCheckC_ptr nilCheckC_fun e_field g_field fieldC_eq e_len g_len lenC_sl lenC_str e_extract g_extract extractC_eq e_mkFunc e_build g_build e_idiv g_idiv idivC_eq e_ishift g_ishift ishiftC_eq e_idx g_idx e_idxA g_idxA e_load g_load loadC_ref loadC_ptr loadB_eq e_slc g_slc e_box boxC_loc boxC_esc e_alloc allocC_loc allocC_esc e_buildS e_store storeC_ref storeC_ptr storeB_eq e_append e_appz e_mk mkC_eq e_call callC_eq e_fn g_fn fnC_eq fnV_min' fnV_max' fnV_rune' e_q g_q e_a e_n g_call g_box g_alloc g_buildS g_store g_append g_mk g_a g_n g_dead e_dead e_callK e_drawn e_tree e_finJ e_tk e_tfin e_tno e_nbt_q e_nbt_qn e_nbt_a e_nbt_an e_nbt_fin e_early_nil e_early_t e_early_f e_nob_nil e_nob_none e_nob_some isBox_dead isBox_v isBox_ref e_dnil e_dk e_ek e_finB vcOps_vc1 e_dcons e_tq e_ekt e_tearly e_talt e_dearly look_nil look_c proj_nil proj_c looks_nil looks_c zip_nil zip_c val_tmp val_const val_func slv_v slv_box slv_ref slot_tmp slot_const slot_func slotL_v slotL_box slotL_ref put_some put_none updBox_c boxSet_box gd_eq slotVals_nil slotVals_c slotVals_b boxV_box boxOn_box slotsOn_nil slotsOn_c slotsOn_b resV_one resV_two vals_nil vals_c allOn_nil allOn_c partOn_nil partOn_c partVals_nil partVals_c fits_nil fits_c fillL_nil fillL_c mkv_one mkv_agg cellsV_agg cellsV_int cellsV_bool cellsV_slice cellsV_string cellsV_pointer cellsV_func cellsV_nilf cellsV_map one'_nil one'_c oc_int oc_bool oc_slice oc_string oc_pointer oc_func oc_nilf oc_map setC_eq iv_add iv_sub iv_mul iv_eql iv_neq iv_lss iv_leq iv_gtr iv_geq iok_add iok_sub iok_mul iok_eql iok_neq iok_lss iok_leq iok_gtr iok_geq pickV_bool args0_nil args0_c bnd_none bnd_some imp_bt imp_bf imp_ebt imp_ebf imp_eb1 imp_np imp_pp beq_tt beq_tf beq_ft beq_ff cond_or cond_and e_round e_meet Int.le_refl Int.toNat_zero decide_true decide_false Bool.or_false Bool.false_or Bool.true_or Bool.or_true Bool.and_false Bool.false_and Bool.bne_false Bool.bne_true beq_iff_eq Int.cast_ofNat_Int not_false_eq_true not_true_eq_false false_and and_false false_implies true_implies true_and and_true Bool.true_and Bool.and_true Bool.not_true Bool.not_false forall_const implies_true List.take_zero List.drop_zero List.take_succ_cons List.drop_succ_cons List.take_nil List.drop_nil List.length_cons List.length_nil List.nil_append List.append_nil List.cons_append Int.toNat_natCast decide_eq_true_eq decide_eq_false_iff_not cond_true cond_false and_self List.getElem?_cons_zero List.getElem?_cons_succ List.set_cons_zero List.set_cons_succ Option.some.injEq exists_eq_left' Nat.zero_add Nat.add_zero Nat.mul_one imp_self true_or or_true or_false false_or Bool.or_eq_true Bool.or_eq_false_iff Bool.and_eq_true Bool.and_eq_false_iff Bool.not_eq_true' Bool.not_eq_false'

theorem take_eq_succ {α : Type} {xs ys : List α} {k : Nat} (hk : k < xs.length) (hk' : k < ys.length) (h : xs.take k = ys.take k) (e : xs[k] = ys[k]) : xs.take (k + 1) = ys.take (k + 1) := by
  rw [List.take_succ_eq_append_getElem hk, List.take_succ_eq_append_getElem hk', h, e]

theorem slices_equal {Γr : Ctx} {A B : Option Addr} {c d : Nat} {xs ys : List Int} (hx : SlOk (lk Γr) A c xs) (hy : SlOk (lk Γr) B d ys) :
    Ret Try.prog 28 [.slice A xs.length c, .slice B ys.length d] Γr [] (fun v Γ => Γ = [] ∧ v = .bool (decide (xs = ys))) := by
  generalize hR : (fun v Γ => Γ = [] ∧ v = _) = R
  refine ret_of_vc tr28 (Nat.le_of_ble_eq_true rfl) ?_
  have h1 := hx.short
  have h2 := hy.short
  simp only [S28, S28_0, go_sem, Nat.reduceBEq, Nat.reduceAdd, Nat.reduceSub, Nat.reduceMul, Nat.reduceLeDiff, reduceCtorEq, ↓reduceIte, Int.reduceLT, Int.reduceLE, Int.reduceEq, Int.reduceNe]
  refine ⟨fun hne => Up.here ?_, fun heq => ?_⟩
  · subst hR
    refine ⟨rfl, ?_⟩
    have : xs ≠ ys := fun e => by subst e; exact hne rfl
    simp [this]
  have hl : xs.length = ys.length := by omega
  refine s_loop (fun f vs Γ => Γ = [] ∧ ∃ k : Nat, vs = [.v true (.int .i64 k)] ∧ k + f = xs.length ∧ xs.take k = ys.take k) xs.length (Up.here ⟨rfl, 0, rfl, by omega, by simp⟩) ?_
  rintro f vs Γ ⟨rfl, k, rfl, hkf, htk⟩
  simp only [S28_1, go_sem, Nat.reduceBEq, Nat.reduceAdd, Nat.reduceSub, Nat.reduceMul, Nat.reduceLeDiff, reduceCtorEq, ↓reduceIte, Int.reduceLT, Int.reduceLE, Int.reduceEq, Int.reduceNe]
  refine ⟨fun hlt => ?_, fun hge => ?_⟩
  · have hk : k < xs.length := by omega
    have hk' : k < ys.length := by omega
    obtain ⟨b, o, hA, hc1⟩ := hx.int hk
    obtain ⟨b', o', hB, hc2⟩ := hy.int hk'
    refine s_idx hA (by omega) (by omega) ?_
    simp only [go_sem, Nat.reduceBEq, Nat.reduceAdd, Nat.reduceSub, Nat.reduceMul, Nat.reduceLeDiff, reduceCtorEq, ↓reduceIte, Int.reduceLT, Int.reduceLE, Int.reduceEq, Int.reduceNe]
    refine s_ld0 (hc1 _ (Mem.le.refl _)) (by simp) (by simp) ?_
    simp only [go_sem, Nat.reduceBEq, Nat.reduceAdd, Nat.reduceSub, Nat.reduceMul, Nat.reduceLeDiff, reduceCtorEq, ↓reduceIte, Int.reduceLT, Int.reduceLE, Int.reduceEq, Int.reduceNe]
    refine s_idx hB (by omega) (by omega) ?_
    simp only [go_sem, Nat.reduceBEq, Nat.reduceAdd, Nat.reduceSub, Nat.reduceMul, Nat.reduceLeDiff, reduceCtorEq, ↓reduceIte, Int.reduceLT, Int.reduceLE, Int.reduceEq, Int.reduceNe]
    refine s_ld0 (hc2 _ (Mem.le.refl _)) (by simp) (by simp) ?_
    simp only [go_sem, Nat.reduceBEq, Nat.reduceAdd, Nat.reduceSub, Nat.reduceMul, Nat.reduceLeDiff, reduceCtorEq, ↓reduceIte, Int.reduceLT, Int.reduceLE, Int.reduceEq, Int.reduceNe]
    refine ⟨fun hne => Up.here ?_, fun heq => ?_⟩
    · subst hR
      refine ⟨rfl, ?_⟩
      have : xs ≠ ys := fun e => by subst e; exact hne rfl
      simp [this]
    · simp (disch := omega) only [wrap_id]
      exact ⟨f - 1, by omega, Up.here ⟨rfl, k + 1, rfl, by omega, take_eq_succ hk hk' htk heq⟩⟩
  · have hk : k = xs.length := by omega
    refine Up.here ?_
    subst hR
    refine ⟨rfl, ?_⟩
    have : xs = ys := by
      rw [hk, List.take_length, hl, List.take_length] at htk
      exact htk
    simp [this]

theorem eraseIdx_eq {α : Type} (xs : List α) (i : Nat) : xs.eraseIdx i = xs.take i ++ xs.drop (i + 1) := List.eraseIdx_eq_take_drop_succ xs i

theorem slices_delete {Γr : Ctx} {g : PH} {A : Option Addr} {c : Nat} {xs : List Int} (hx : Bld g (lk []) 3 (.slice A xs.length c) xs) (hs : xs.length ≤ 1000) (i : Nat) (hi : i < xs.length) :
    Ret Try.prog 29 [.slice A xs.length c, .int .i64 i, .int .i64 ((i : Int) + 1)] Γr [g] (fun v Γ => ∃ g', Γ = [g'] ∧ Bld g' (lk []) 3 v (xs.eraseIdx i)) := by
  generalize hR : (fun (v : Value) (Γ : Ctx) => ∃ g', _) = R
  refine ret_of_vc tr29 (Nat.le_of_ble_eq_true rfl) ?_
  have hcap : xs.length ≤ c := by
    obtain ⟨cs, h, _⟩ := hx
    obtain ⟨A', c', e, hl⟩ := h.len
    simp only [Value.slice.injEq] at e
    omega
  have hel : (xs.eraseIdx i).length = xs.length - 1 := by rw [List.length_eraseIdx, if_pos hi]
  simp only [S29, S29_0, go_sem, Nat.reduceBEq, Nat.reduceAdd, Nat.reduceSub, Nat.reduceMul, Nat.reduceLeDiff, reduceCtorEq, ↓reduceIte, Int.reduceLT, Int.reduceLE, Int.reduceEq, Int.reduceNe]
  refine s_q trivial (qr_slc3 (e := 3) (sz := 1) (l := i) (h := i + 1) (m := xs.length) (by kernel_rfl) (by kernel_rfl) (by omega) (by omega) hcap) ?_
  simp only [go_sem, Nat.reduceBEq, Nat.reduceAdd, Nat.reduceSub, Nat.reduceMul, Nat.reduceLeDiff, reduceCtorEq, ↓reduceIte, Int.reduceLT, Int.reduceLE, Int.reduceEq, Int.reduceNe]
  refine ⟨fun h => by omega, fun _ => ?_⟩
  refine s_hi i (by simp only [go_sem, Nat.reduceBEq, Nat.reduceAdd, Nat.reduceSub, Nat.reduceMul, Nat.reduceLeDiff, reduceCtorEq, ↓reduceIte, Int.reduceLT, Int.reduceLE, Int.reduceEq, Int.reduceNe]; exact ⟨_, rfl⟩) (by omega) ?_
  simp only [go_sem, Nat.reduceBEq, Nat.reduceAdd, Nat.reduceSub, Nat.reduceMul, Nat.reduceLeDiff, reduceCtorEq, ↓reduceIte, Int.reduceLT, Int.reduceLE, Int.reduceEq, Int.reduceNe]
  refine s_lo (i + 1) (by simp only [go_sem, Nat.reduceBEq, Nat.reduceAdd, Nat.reduceSub, Nat.reduceMul, Nat.reduceLeDiff, reduceCtorEq, ↓reduceIte, Int.reduceLT, Int.reduceLE, Int.reduceEq, Int.reduceNe]; exact ⟨_, rfl⟩) (by omega) hcap ?_
  intro A2 hA2
  simp only [go_sem, Nat.reduceBEq, Nat.reduceAdd, Nat.reduceSub, Nat.reduceMul, Nat.reduceLeDiff, reduceCtorEq, ↓reduceIte, Int.reduceLT, Int.reduceLE, Int.reduceEq, Int.reduceNe]
  have hsl : ∃ A' c', (Value.slice A xs.length c) = .slice A' xs.length c' ∧ SlOk (lk [g]) A' c' xs := hx.slok (Mem.le.refl _) (lk_sub (by simp)) (by omega)
  obtain ⟨A', c', e, hsl⟩ := hsl
  simp only [Value.slice.injEq, true_and] at e
  obtain ⟨rfl, rfl⟩ := e
  have hd := hsl.drop (l := i + 1) (by omega)
  rw [show (if c = i + 1 then A else A.map (·.add ((i + 1) * Rep.sz Int))) = A2 from hA2.symm] at hd
  refine s_appS (ix := 0) rfl (hx.take (k := i) (by omega)) hd (by simp) (lk_l _ _) rfl (by simp; omega) (by simp [maxLen]; omega) ?_
  intro v g' hB hkp
  rw [← eraseIdx_eq] at hB
  obtain ⟨A3, c3, rfl⟩ := hB.val
  have hc3 : xs.length ≤ c3 := by
    have := ((hkp.2 _ _ _ _ _ _ rfl rfl).1 (by rw [hel]; omega)).2
    omega
  rw [hel] at hB ⊢
  simp only [go_sem, Nat.reduceBEq, Nat.reduceAdd, Nat.reduceSub, Nat.reduceMul, Nat.reduceLeDiff, reduceCtorEq, ↓reduceIte, Int.reduceLT, Int.reduceLE, Int.reduceEq, Int.reduceNe]
  refine s_lohi (xs.length - 1) xs.length (by simp only [go_sem, Nat.reduceBEq, Nat.reduceAdd, Nat.reduceSub, Nat.reduceMul, Nat.reduceLeDiff, reduceCtorEq, ↓reduceIte, Int.reduceLT, Int.reduceLE, Int.reduceEq, Int.reduceNe]; exact ⟨_, rfl⟩) (by simp only [go_sem, Nat.reduceBEq, Nat.reduceAdd, Nat.reduceSub, Nat.reduceMul, Nat.reduceLeDiff, reduceCtorEq, ↓reduceIte, Int.reduceLT, Int.reduceLE, Int.reduceEq, Int.reduceNe]; exact ⟨_, rfl⟩) (by omega) hc3 ?_
  rintro A4 hA4
  simp only [go_sem, Nat.reduceBEq, Nat.reduceAdd, Nat.reduceSub, Nat.reduceMul, Nat.reduceLeDiff, reduceCtorEq, ↓reduceIte, Int.reduceLT, Int.reduceLE, Int.reduceEq, Int.reduceNe]
  rw [hA4]
  refine s_clear (α := Int) (ix := 0) (z := .int .i64 0) (n := xs.length - 1) (e := 3) (by kernel_rfl) (by kernel_rfl) rfl (by simp [Value.cells, one', Value.oneCell']) rfl hB (by omega) rfl ?_
  intro g2 hB2
  simp only [go_sem, Nat.reduceBEq, Nat.reduceAdd, Nat.reduceSub, Nat.reduceMul, Nat.reduceLeDiff, reduceCtorEq, ↓reduceIte, Int.reduceLT, Int.reduceLE, Int.reduceEq, Int.reduceNe]
  refine Up.here ?_
  subst hR
  exact ⟨g2, rfl, hB2⟩

/-! the order that coins draw -/
def ordF (coins : List Bool) : Nat → List Int → List Int → Nat → Option (List Int × Nat)
  | 0, _, out, used => some (out, used)
  | f + 1, left, out, used => match coinsF left.length (coins.drop used) with
    | none => none
    | some (i, u) => ordF coins f (left.eraseIdx i) (out ++ [left.getD i 0]) (used + u)
def orderR (n : Int) (coins : List Bool) : List Int × Int × Int :=
  if n < 0 ∨ 100 < n then ([], 0, 1) else match ordF coins n.toNat (numsI n.toNat) [] 0 with
    | none => ([], 0, 5)
    | some (o, k) => (o, k, 0)
theorem coinsG_lt' {n b : Nat} {coins : List Bool} : ∀ {f u : Nat} {x v : Nat}, coinsG n b coins f u = some (x, v) → x < n ∧ v ≤ coins.length
  | 0, u, x, v, h => by simp [coinsG] at h
  | f + 1, u, x, v, h => by
    simp only [coinsG] at h
    split at h
    · split at h
      · simp at h; omega
      · exact coinsG_lt' h
    · cases h
theorem coinsF_lt' {n : Nat} {coins : List Bool} {x v : Nat} (h : coinsF n coins = some (x, v)) : x < n ∧ v ≤ coins.length := coinsG_lt' h

theorem draw_order {Γr : Ctx} (n : Int) {A : Option Addr} {c : Nat} {coins : List Bool} (hc : SlOk (lk Γr) A c coins) :
    Ret Try.prog 27 [.int .i64 n, .slice A coins.length c] Γr [] (fun v Γ => ∃ g B cb, Γ = [g] ∧ SlOk (lk [g]) B cb (orderR n coins).1 ∧
      v = .tuple #[.slice B (orderR n coins).1.length cb, .int .i64 (orderR n coins).2.1, .int .i64 (orderR n coins).2.2]) := by
  generalize hR : (fun (v : Value) (Γ : Ctx) => ∃ g B cb, _) = R
  refine ret_of_vc tr27 (Nat.le_of_ble_eq_true rfl) ?_
  have hcl := hc.short
  simp only [S27, S27_0, go_sem, Nat.reduceBEq, Nat.reduceAdd, Nat.reduceSub, Nat.reduceMul, Nat.reduceLeDiff, reduceCtorEq, ↓reduceIte, Int.reduceLT, Int.reduceLE, Int.reduceEq, Int.reduceNe]
  refine ⟨fun h => Up.one fun g _ => ?_, fun hn => ?_⟩
  · subst hR
    have : orderR n coins = ([], 0, 1) := by unfold orderR; rw [if_pos h]
    rw [this]
    exact ⟨g, none, 0, rfl, SlOk.nil, rfl⟩
  obtain ⟨m, rfl⟩ : ∃ m : Nat, n = m := ⟨n.toNat, by omega⟩
  have hm : m ≤ 100 := by omega
  have hres : orderR m coins = match ordF coins m (numsI m) [] 0 with
    | none => ([], 0, 5)
    | some (o, k) => (o, k, 0) := by
    unfold orderR
    rw [if_neg (by omega), Int.toNat_natCast]
  -- the numbers
  refine s_loop (fun f vs Γ => ∃ g g2 : PH, Γ = [g, g2] ∧ ∃ (k : Nat) (u : Value), vs = [.v true u, .v true (.int .i64 k)] ∧ k + f = m ∧ Bld g (lk []) 3 u (numsI k)) m
    (Up.sel [[], []] (by decide) fun _ _ => ⟨_, _, rfl, 0, _, rfl, by omega, Bld.nil _ _ _⟩) ?_
  rintro f vs Γ ⟨g, g2, rfl, k, u, rfl, hkf, hB⟩
  have hkl := numsI_len k
  simp only [S27_1, go_sem, Nat.reduceBEq, Nat.reduceAdd, Nat.reduceSub, Nat.reduceMul, Nat.reduceLeDiff, reduceCtorEq, ↓reduceIte, Int.reduceLT, Int.reduceLE, Int.reduceEq, Int.reduceNe]
  refine ⟨fun hlt => ?_, fun hge => ?_⟩
  · intro b
    refine s_app1S (ix := 1) (k : Int) rfl hB cells_one rfl (by omega) (by simp [maxLen]; omega) ?_
    intro v' g' hB' _
    simp only [go_sem, Nat.reduceBEq, Nat.reduceAdd, Nat.reduceSub, Nat.reduceMul, Nat.reduceLeDiff, reduceCtorEq, ↓reduceIte, Int.reduceLT, Int.reduceLE, Int.reduceEq, Int.reduceNe]
    simp (disch := omega) only [wrap_id]
    rw [← numsI_succ] at hB'
    exact ⟨f - 1, by omega, Up.sel [[1], [2]] (by decide) fun _ _ => ⟨_, _, rfl, k + 1, v', rfl, by omega, hB'⟩⟩
  · have hk : k = m := by omega
    subst hk
    refine s_loop (fun f vs Γ => ∃ g g2 : PH, Γ = [g, g2] ∧ ∃ (left out : List Int) (used : Nat) (u1 u2 : Value), vs = [.v true u1, .v true u2, .v true (.int .i64 used)] ∧ f = left.length ∧ Bld g (lk []) 3 u1 left ∧ Bld g2 (lk []) 3 u2 out ∧
      left.length + out.length = k ∧ used ≤ coins.length ∧ ordF coins left.length left out used = ordF coins k (numsI k) [] 0) k
      (Up.here ⟨g, g2, rfl, numsI k, [], 0, _, _, rfl, hkl.symm, hB, Bld.nil _ _ _, by simp [hkl], by omega, by rw [hkl]⟩) ?_
    rintro f vs Γ ⟨g, g2, rfl, left, out, used, u1, u2, rfl, hf, hB1, hB2, hlen, hused, hord⟩
    obtain ⟨A1, c1, rfl⟩ := hB1.val
    simp only [S27_2, go_sem, Nat.reduceBEq, Nat.reduceAdd, Nat.reduceSub, Nat.reduceMul, Nat.reduceLeDiff, reduceCtorEq, ↓reduceIte, Int.reduceLT, Int.reduceLE, Int.reduceEq, Int.reduceNe]
    refine ⟨fun hlt => ?_, fun hge => ?_⟩
    · refine s_lo used (by simp only [go_sem, Nat.reduceBEq, Nat.reduceAdd, Nat.reduceSub, Nat.reduceMul, Nat.reduceLeDiff, reduceCtorEq, ↓reduceIte, Int.reduceLT, Int.reduceLE, Int.reduceEq, Int.reduceNe]; exact ⟨_, rfl⟩) hused hc.cap ?_
      intro A2 hA2
      simp only [go_sem, Nat.reduceBEq, Nat.reduceAdd, Nat.reduceSub, Nat.reduceMul, Nat.reduceLeDiff, reduceCtorEq, ↓reduceIte, Int.reduceLT, Int.reduceLE, Int.reduceEq, Int.reduceNe]
      have hd := (hc.drop (l := used) hused).r (Γ := [g, g2])
      rw [show (if c = used then A else A.map (·.add (used * Rep.sz Bool))) = A2 from hA2.symm] at hd
      have hdl : (coins.drop used).length = coins.length - used := by simp
      rw [← hdl]
      refine CallVC.read (draw_number _ _ _ _ hd) ?_
      rintro v Γ' ⟨rfl, rfl⟩
      rw [if_neg (by omega), Int.toNat_natCast]
      obtain ⟨l, hl⟩ : ∃ l, left.length = l + 1 := ⟨left.length - 1, by omega⟩
      rw [hl] at hord
      simp only [ordF, hl] at hord
      rw [hl]
      cases hcf : coinsF (l + 1) (coins.drop used) with
      | none =>
        rw [hcf] at hord
        simp only at hord
        rw [← hord] at hres
        simp only [go_sem, Nat.reduceBEq, Nat.reduceAdd, Nat.reduceSub, Nat.reduceMul, Nat.reduceLeDiff, reduceCtorEq, ↓reduceIte, Int.reduceLT, Int.reduceLE, Int.reduceEq, Int.reduceNe]
        refine Up.one fun g3 _ => ?_
        subst hR
        rw [hres]
        exact ⟨g3, none, 0, rfl, SlOk.nil, rfl⟩
      | some p =>
        obtain ⟨i, w⟩ := p
        rw [hcf] at hord
        simp only at hord
        obtain ⟨hi, hw⟩ := coinsF_lt' hcf
        simp only [List.length_drop] at hw
        simp only [go_sem, Nat.reduceBEq, Nat.reduceAdd, Nat.reduceSub, Nat.reduceMul, Nat.reduceLeDiff, reduceCtorEq, ↓reduceIte, Int.reduceLT, Int.reduceLE, Int.reduceEq, Int.reduceNe]
        have hcap : left.length ≤ c1 := by
          obtain ⟨cs, h, _⟩ := hB1
          obtain ⟨A', c', e, hl⟩ := h.len
          simp only [Value.slice.injEq] at e
          omega
        have hsl : ∃ A' c', (Value.slice A1 left.length c1) = .slice A' left.length c' ∧ SlOk (lk [g]) A' c' left := hB1.slok (Mem.le.refl _) (lk_sub (by simp)) (by omega)
        obtain ⟨A', c', e, hsl⟩ := hsl
        simp only [Value.slice.injEq, true_and] at e
        obtain ⟨rfl, rfl⟩ := e
        have hil : i < left.length := by omega
        obtain ⟨b, o, hA1, hcells⟩ := hsl.int hil
        refine s_idx hA1 (by omega) (by omega) ?_
        simp only [go_sem, Nat.reduceBEq, Nat.reduceAdd, Nat.reduceSub, Nat.reduceMul, Nat.reduceLeDiff, reduceCtorEq, ↓reduceIte, Int.reduceLT, Int.reduceLE, Int.reduceEq, Int.reduceNe]
        refine s_ld0 (hcells _ (lk_sub (by simp))) (by simp) (by simp) ?_
        simp only [go_sem, Nat.reduceBEq, Nat.reduceAdd, Nat.reduceSub, Nat.reduceMul, Nat.reduceLeDiff, reduceCtorEq, ↓reduceIte, Int.reduceLT, Int.reduceLE, Int.reduceEq, Int.reduceNe]
        intro b'
        refine s_app1S (ix := 2) left[i] rfl hB2 cells_one rfl (by omega) (by simp [maxLen]; omega) ?_
        intro v2 g2' hB2' _
        simp only [go_sem, Nat.reduceBEq, Nat.reduceAdd, Nat.reduceSub, Nat.reduceMul, Nat.reduceLeDiff, reduceCtorEq, ↓reduceIte, Int.reduceLT, Int.reduceLE, Int.reduceEq, Int.reduceNe]
        refine s_hi i (by simp only [go_sem, Nat.reduceBEq, Nat.reduceAdd, Nat.reduceSub, Nat.reduceMul, Nat.reduceLeDiff, reduceCtorEq, ↓reduceIte, Int.reduceLT, Int.reduceLE, Int.reduceEq, Int.reduceNe]; exact ⟨_, rfl⟩) (by omega) ?_
        simp only [go_sem, Nat.reduceBEq, Nat.reduceAdd, Nat.reduceSub, Nat.reduceMul, Nat.reduceLeDiff, reduceCtorEq, ↓reduceIte, Int.reduceLT, Int.reduceLE, Int.reduceEq, Int.reduceNe]
        simp (disch := omega) only [wrap_id]
        refine s_lo (i + 1) (by simp only [go_sem, Nat.reduceBEq, Nat.reduceAdd, Nat.reduceSub, Nat.reduceMul, Nat.reduceLeDiff, reduceCtorEq, ↓reduceIte, Int.reduceLT, Int.reduceLE, Int.reduceEq, Int.reduceNe]; exact ⟨_, rfl⟩) (by omega) (by omega) ?_
        intro A3 hA3
        simp only [go_sem, Nat.reduceBEq, Nat.reduceAdd, Nat.reduceSub, Nat.reduceMul, Nat.reduceLeDiff, reduceCtorEq, ↓reduceIte, Int.reduceLT, Int.reduceLE, Int.reduceEq, Int.reduceNe]
        have hd := hsl.drop (l := i + 1) (by omega)
        rw [show (if c1 = i + 1 then A1 else A1.map (·.add ((i + 1) * Rep.sz Int))) = A3 from hA3.symm] at hd
        have hel : (left.eraseIdx i).length = l := by rw [List.length_eraseIdx, if_pos hil]; omega
        refine s_appS (ix := 1) rfl (hB1.take (k := i) (by omega)) hd (by simp [hl]) (lk_sub (by simp)) rfl (by simp; omega) (by simp [maxLen]; omega) ?_
        intro v g' hB' hkp
        rw [← eraseIdx_eq] at hB'
        simp only [go_sem, Nat.reduceBEq, Nat.reduceAdd, Nat.reduceSub, Nat.reduceMul, Nat.reduceLeDiff, reduceCtorEq, ↓reduceIte, Int.reduceLT, Int.reduceLE, Int.reduceEq, Int.reduceNe]
        have hg : left.getD i 0 = left[i] := by rw [List.getD_eq_getElem?_getD, List.getElem?_eq_getElem hil]; rfl
        rw [hg] at hord
        exact ⟨l, by omega, Up.sel [[1], [2]] (by decide) fun _ _ => ⟨_, _, rfl, left.eraseIdx i, out ++ [left[i]], used + w, _, _, rfl, hel.symm, hB', hB2', by simp [hel]; omega, by omega, by rw [hel]; exact hord⟩⟩
    · have hl0 : left = [] := List.eq_nil_of_length_eq_zero (by omega)
      subst hl0
      simp only [List.length_nil, ordF] at hord
      rw [← hord] at hres
      have hol : out.length ≤ 100 := by simp at hlen; omega
      refine Up.one fun g3 hg3 => ?_
      obtain ⟨B, cb, rfl, hs⟩ := hB2.slok (L' := lk [g3]) ((lk_m (by simp)).trans hg3) (fun _ _ h => by obtain ⟨_, h, _⟩ := h; cases h) (by omega)
      subst hR
      rw [hres]
      exact ⟨g3, B, cb, rfl, hs, rfl⟩
end Go.Proofs.Ytniobbepliknmaa.V
/- The text of slices.Equal[[]bool,bool] as a statement (slots: 0 s1, 1 s2, 2 s1, 3 s2, 5 i); no condition. -/
namespace Go.Proofs.Ytniobbepliknmaa.V
open Go
def S41_1 : Stmt :=
  Stmt.seq
  (Stmt.region [SOper.mk (some 14) none (SOp.ibin BinOp.lss (Operand.tmp 13) (Operand.tmp 12))] [0, 1, 12, 13, 14])
  (Stmt.seq (Stmt.cond (Operand.tmp 14) Stmt.skip (Stmt.exit 0))
    (Stmt.seq
      (Stmt.block 1
        (Stmt.seq
          (Stmt.region
            [SOper.mk (some 15) none (SOp.mv (Operand.tmp 13)), SOper.mk (some 5) none (SOp.mv (Operand.tmp 15))]
            [0, 1, 5, 12, 13])
          (Stmt.seq
            (Stmt.quiet
              [SOper.mk (some 16) none (SOp.mv (Operand.tmp 0)), SOper.mk (some 17) none (SOp.mv (Operand.tmp 5)),
                SOper.mk (some 18) none (SOp.idx 1 (Operand.tmp 16) (Operand.tmp 17)),
                SOper.mk (some 19) none (SOp.load false 1 (Operand.tmp 18)),
                SOper.mk (some 20) none (SOp.mv (Operand.tmp 1)), SOper.mk (some 21) none (SOp.mv (Operand.tmp 5)),
                SOper.mk (some 22) none (SOp.idx 1 (Operand.tmp 20) (Operand.tmp 21)),
                SOper.mk (some 23) none (SOp.load false 1 (Operand.tmp 22)),
                SOper.mk (some 24) none (SOp.beq true (Operand.tmp 19) (Operand.tmp 23))]
              [0, 1, 12, 13, 24])
            (Stmt.cond (Operand.tmp 24)
              (Stmt.seq (Stmt.region [SOper.mk (some 4) none (SOp.mv (Operand.const (Value.bool false)))] [4]) Stmt.ret)
              Stmt.skip))))
      (Stmt.region
        [SOper.mk (some 25) none (SOp.ibin BinOp.add (Operand.tmp 13) (Operand.const (Value.int IntKind.i64 1))),
          SOper.mk (some 13) none (SOp.mv (Operand.tmp 25))]
        [0, 1, 12, 13])))
def S41_0 : Stmt :=
  Stmt.seq (Stmt.region [SOper.mk (some 4) none (SOp.mv (Operand.const (Value.bool false)))] [0, 1])
  (Stmt.seq
    (Stmt.seq
      (Stmt.region
        [SOper.mk (some 6) none (SOp.mv (Operand.tmp 0)), SOper.mk (some 7) none (SOp.len false (Operand.tmp 6)),
          SOper.mk (some 8) none (SOp.mv (Operand.tmp 1)), SOper.mk (some 9) none (SOp.len false (Operand.tmp 8)),
          SOper.mk (some 10) none (SOp.ibin BinOp.neq (Operand.tmp 7) (Operand.tmp 9))]
        [0, 1, 10])
      (Stmt.cond (Operand.tmp 10)
        (Stmt.seq (Stmt.region [SOper.mk (some 4) none (SOp.mv (Operand.const (Value.bool false)))] [4]) Stmt.ret)
        Stmt.skip))
    (Stmt.seq
      (Stmt.seq
        (Stmt.region
          [SOper.mk (some 11) none (SOp.mv (Operand.tmp 0)), SOper.mk (some 12) none (SOp.len false (Operand.tmp 11)),
            SOper.mk (some 13) none (SOp.mv (Operand.const (Value.int IntKind.i64 0)))]
          [0, 1, 12, 13])
        (Stmt.block 0 (Stmt.loop S41_1 [13] [0, 1, 12])))
      (Stmt.seq (Stmt.region [SOper.mk (some 4) none (SOp.mv (Operand.const (Value.bool true)))] [4]) Stmt.ret)))
def S41 : FnS := ⟨26, [(4, none)], S41_0⟩
theorem tr41 : trFn Try.prog 41 [] [[0, 1], [0, 1, 10], [4], [0, 1, 12, 13], [13], [0, 1, 12], [0, 1, 12, 13, 14], [0, 1, 5, 12, 13], [0, 1, 12, 13, 24], [4], [0, 1, 12, 13], [4]] = some S41 := by kernel_rfl
end Go.Proofs.Ytniobbepliknmaa.V
/- The text of parlance/parllaw5.plain as a statement (slots: ); no condition. -/
namespace Go.Proofs.Ytniobbepliknmaa.V
open Go
def S40_0 : Stmt :=
  Stmt.seq
  (Stmt.region
    [SOper.mk (some 0) none
        (SOp.alloc true 57
          (Value.agg
            (Array.mk
              [Value.int IntKind.i64 0, Value.int IntKind.i64 0, Value.int IntKind.i64 0, Value.slice none 0 0])))]
    [0])
  (Stmt.seq
    (Stmt.region
      [SOper.mk (some 1) none
          (SOp.build 39 [Value.bool false, Value.int IntKind.i64 0] [(0, 1, Operand.const (Value.bool true))]),
        SOper.mk (some 2) none (SOp.buildS 39 1 [Value.bool false, Value.int IntKind.i64 0] [(0, 2, Operand.tmp 1)]),
        SOper.mk (some 3) none (SOp.build 37 [Value.int IntKind.i64 0, Value.slice none 0 0] [(1, 1, Operand.tmp 2)]),
        SOper.mk (some 4) none
          (SOp.build 39 [Value.bool false, Value.int IntKind.i64 0]
            [(0, 1, Operand.const (Value.bool true)), (1, 1, Operand.const (Value.int IntKind.i64 1))]),
        SOper.mk (some 5) none (SOp.build 39 [Value.bool false, Value.int IntKind.i64 0] []),
        SOper.mk (some 6) none
          (SOp.buildS 39 2 [Value.bool false, Value.int IntKind.i64 0, Value.bool false, Value.int IntKind.i64 0]
            [(0, 2, Operand.tmp 4), (2, 2, Operand.tmp 5)]),
        SOper.mk (some 7) none (SOp.build 37 [Value.int IntKind.i64 0, Value.slice none 0 0] [(1, 1, Operand.tmp 6)]),
        SOper.mk (some 8) none
          (SOp.buildS 37 2
            [Value.int IntKind.i64 0, Value.slice none 0 0, Value.int IntKind.i64 0, Value.slice none 0 0]
            [(0, 2, Operand.tmp 3), (2, 2, Operand.tmp 7)]),
        SOper.mk (some 9) none
          (SOp.build 57
            [Value.int IntKind.i64 0, Value.int IntKind.i64 0, Value.int IntKind.i64 0, Value.slice none 0 0]
            [(0, 1, Operand.const (Value.int IntKind.i64 2)), (1, 1, Operand.const (Value.int IntKind.i64 1)),
              (3, 1, Operand.tmp 8)]),
        SOper.mk none none (SOp.store 4 (Operand.tmp 0) (Operand.tmp 9))]
      [0])
    Stmt.ret)
def S40 : FnS := ⟨10, [(0, some (true, 4))], S40_0⟩
theorem tr40 : trFn Try.prog 40 [0] [[0], [0]] = some S40 := by kernel_rfl
end Go.Proofs.Ytniobbepliknmaa.V
