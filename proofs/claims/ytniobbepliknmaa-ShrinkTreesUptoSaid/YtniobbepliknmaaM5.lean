/- Texts put together, in the order in which they build; each says what it proves; no condition. -/
import Derived.Test.YtniobbepliknmaaM2
import Derived.Test.YtniobbepliknmaaProg
import Derived.Test.YtniobbepliknmaaM4
/- The text of parlance/tree.symbol as a statement (slots: 0 g, 1 t, 2 g, 3 t); no condition. -/
namespace Go.Proofs.Ytniobbepliknmaa.V
open Go
def S180_0 : Stmt :=
  Stmt.seq
  (Stmt.region
    [SOper.mk (some 2) none (SOp.box true 57 (Operand.tmp 0)),
      SOper.mk (some 3) none (SOp.box true 106 (Operand.tmp 1)),
      SOper.mk (some 4) none (SOp.alloc true 39 (Value.agg (Array.mk [Value.bool false, Value.int IntKind.i64 0]))),
      SOper.mk (some 5) none (SOp.mv (Operand.const (Value.bool false)))]
    [2, 3, 4])
  (Stmt.seq
    (Stmt.seq
      (Stmt.region
        [SOper.mk (some 6) none (SOp.load true 3 (Operand.tmp 3)),
          SOper.mk (some 7) none (SOp.call (Operand.func 139) [Operand.tmp 6])]
        [2, 3, 4, 7])
      (Stmt.cond (Operand.tmp 7)
        (Stmt.seq
          (Stmt.drawnB
            [(false, SOper.mk (some 8) none (SOp.fld 1 (Operand.tmp 3))),
              (false, SOper.mk (some 9) none (SOp.loadB (some 3) false 1 (Operand.tmp 8))),
              (false,
                SOper.mk (some 10) none
                  (SOp.build 39 [Value.bool false, Value.int IntKind.i64 0]
                    [(0, 1, Operand.const (Value.bool true)), (1, 1, Operand.tmp 9)])),
              (false, SOper.mk (some 11) none (SOp.fld 1 (Operand.tmp 3))),
              (false, SOper.mk (some 12) none (SOp.loadB (some 3) false 1 (Operand.tmp 11))),
              (false,
                SOper.mk (some 13) none
                  (SOp.ibin BinOp.geq (Operand.tmp 12) (Operand.const (Value.int IntKind.i64 0)))),
              (false, SOper.mk (some 14) none (SOp.mv (Operand.tmp 13))),
              (false, SOper.mk (some 15) (some (14, true)) (SOp.fld 1 (Operand.tmp 3))),
              (false, SOper.mk (some 16) (some (14, true)) (SOp.loadB (some 3) false 1 (Operand.tmp 15))),
              (false, SOper.mk (some 17) (some (14, true)) (SOp.fld 0 (Operand.tmp 2))),
              (false, SOper.mk (some 18) (some (14, true)) (SOp.loadB (some 2) false 1 (Operand.tmp 17))),
              (false, SOper.mk (some 19) (some (14, true)) (SOp.ibin BinOp.lss (Operand.tmp 16) (Operand.tmp 18))),
              (false,
                SOper.mk (some 20) none
                  (SOp.pick (Operand.tmp 14) (Operand.tmp 19) (Operand.const (Value.bool false)))),
              (false, SOper.mk (some 21) none (SOp.mv (Operand.tmp 20))),
              (false, SOper.mk (some 22) (some (21, true)) (SOp.fld 2 (Operand.tmp 3))),
              (false, SOper.mk (some 23) (some (21, true)) (SOp.loadB (some 3) false 1 (Operand.tmp 22))),
              (false, SOper.mk (some 24) (some (21, true)) (SOp.len false (Operand.tmp 23))),
              (false,
                SOper.mk (some 25) (some (21, true))
                  (SOp.ibin BinOp.eql (Operand.tmp 24) (Operand.const (Value.int IntKind.i64 0)))),
              (false,
                SOper.mk (some 26) none
                  (SOp.pick (Operand.tmp 21) (Operand.tmp 25) (Operand.const (Value.bool false)))),
              (false, SOper.mk none none (SOp.store 2 (Operand.tmp 4) (Operand.tmp 10))),
              (false, SOper.mk (some 5) none (SOp.mv (Operand.tmp 26)))]
            [4, 5])
          Stmt.ret)
        Stmt.skip))
    (Stmt.seq
      (Stmt.seq
        (Stmt.region
          [SOper.mk (some 27) none (SOp.fld 0 (Operand.tmp 3)),
            SOper.mk (some 28) none (SOp.load false 1 (Operand.tmp 27)),
            SOper.mk (some 29) none (SOp.ibin BinOp.lss (Operand.tmp 28) (Operand.const (Value.int IntKind.i64 0))),
            SOper.mk (some 30) none (SOp.mv (Operand.tmp 29)),
            SOper.mk (some 31) (some (30, false)) (SOp.fld 0 (Operand.tmp 3)),
            SOper.mk (some 32) (some (30, false)) (SOp.load false 1 (Operand.tmp 31)),
            SOper.mk (some 33) (some (30, false)) (SOp.fld 3 (Operand.tmp 2)),
            SOper.mk (some 34) (some (30, false)) (SOp.load false 1 (Operand.tmp 33)),
            SOper.mk (some 35) (some (30, false)) (SOp.len false (Operand.tmp 34)),
            SOper.mk (some 36) (some (30, false)) (SOp.ibin BinOp.geq (Operand.tmp 32) (Operand.tmp 35)),
            SOper.mk (some 37) none (SOp.pick (Operand.tmp 30) (Operand.const (Value.bool true)) (Operand.tmp 36))]
          [2, 3, 4, 37])
        (Stmt.cond (Operand.tmp 37)
          (Stmt.seq
            (Stmt.region
              [SOper.mk (some 38) none (SOp.build 39 [Value.bool false, Value.int IntKind.i64 0] []),
                SOper.mk none none (SOp.store 2 (Operand.tmp 4) (Operand.tmp 38)),
                SOper.mk (some 5) none (SOp.mv (Operand.const (Value.bool false)))]
              [4, 5])
            Stmt.ret)
          Stmt.skip))
      (Stmt.seq
        (Stmt.drawnB
          [(false, SOper.mk (some 39) none (SOp.fld 3 (Operand.tmp 2))),
            (false, SOper.mk (some 40) none (SOp.loadB (some 2) false 1 (Operand.tmp 39))),
            (false, SOper.mk (some 41) none (SOp.fld 0 (Operand.tmp 3))),
            (false, SOper.mk (some 42) none (SOp.loadB (some 3) false 1 (Operand.tmp 41))),
            (false, SOper.mk (some 43) none (SOp.idx 2 (Operand.tmp 40) (Operand.tmp 42))),
            (false, SOper.mk (some 44) none (SOp.fld 0 (Operand.tmp 43))),
            (false, SOper.mk (some 45) none (SOp.loadB none false 1 (Operand.tmp 44))),
            (false,
              SOper.mk (some 46) none
                (SOp.build 39 [Value.bool false, Value.int IntKind.i64 0] [(1, 1, Operand.tmp 45)])),
            (false, SOper.mk (some 47) none (SOp.fld 1 (Operand.tmp 3))),
            (false, SOper.mk (some 48) none (SOp.loadB (some 3) false 1 (Operand.tmp 47))),
            (false,
              SOper.mk (some 49) none (SOp.ibin BinOp.eql (Operand.tmp 48) (Operand.const (Value.int IntKind.i64 0)))),
            (false, SOper.mk none none (SOp.store 2 (Operand.tmp 4) (Operand.tmp 46))),
            (false, SOper.mk (some 5) none (SOp.mv (Operand.tmp 49)))]
          [4, 5])
        Stmt.ret)))
def S180 : FnS := ⟨50, [(4, some (true, 2)), (5, none)], S180_0⟩
theorem tr180 : trFn Try.prog 180 [2, 3, 4] [[2, 3, 4], [2, 3, 4, 7], [4, 5], [], [], [0, 5, 0, 0, 5, 0, 0, 0, 5, 0, 4, 0, 0, 0, 0, 5, 0, 0, 0, 0, 0], [0, 1, 2, 3, 4, 5, 6, 7, 8, 9, 10, 11, 12, 13, 14, 15, 16, 17, 18, 19, 20], [], [], [0], [0, 1], [], [3], [3, 4], [3, 4, 5], [3, 4, 5, 6], [3, 4, 5, 6, 7], [3, 4, 5, 6], [3, 4, 5, 6, 9], [3, 4, 5, 6, 7, 8, 9, 10], [3, 4, 5, 6, 7, 8, 9, 10, 11], [3, 4, 5, 6, 7, 8, 9, 10, 11, 12], [3, 4, 5, 6, 7, 8, 9, 10, 11, 12, 13], [3, 4, 5, 6, 7, 8, 9, 10, 11, 12, 13, 14], [3, 4, 5, 6, 7, 8, 9, 10, 11, 12, 13, 14, 15], [3, 4, 5, 6, 7, 8, 9, 10, 11, 12, 13, 14, 15, 16], [3, 4, 5, 6, 7, 8, 9, 10, 11, 12, 13, 14, 15, 16, 17], [0, 1, 2, 3, 4, 5, 6, 7, 8, 9, 10, 11, 12, 13], [0, 1, 2, 3, 4, 5, 6, 7, 8, 9, 10, 11, 12, 13, 14, 15, 16, 17, 18, 19], [2, 3, 4, 37], [4, 5], [4, 5], [], [], [0, 4, 0, 5, 0, 0, 1, 0, 0, 5, 0, 0, 0], [0, 1, 2, 3, 4, 5, 6, 7, 8, 9, 10, 11, 12], [], [], [0], [], [2], [0, 1, 2, 3], [0, 1, 2, 3, 4], [0, 1, 2, 3, 4, 5], [0, 1, 2, 3, 4, 5, 6], [], [8], [8, 9], [0, 1, 2, 3, 4, 5, 6, 7], [0, 1, 2, 3, 4, 5, 6, 7, 8, 9, 10, 11]] = some S180 := by kernel_rfl
end Go.Proofs.Ytniobbepliknmaa.V
/- The text of parlance/tree.valid as a statement (slots: 0 g, 1 t, 2 g, 3 t, 5 _, 6 ok, 7 right, 8 i, 9 k, 10 s, 11 ok); no condition. -/
namespace Go.Proofs.Ytniobbepliknmaa.V
open Go
def S140_1 : Stmt :=
  Stmt.seq
  (Stmt.region [SOper.mk (some 42) none (SOp.ibin BinOp.lss (Operand.tmp 41) (Operand.tmp 40))] [2, 7, 39, 40, 41, 42])
  (Stmt.seq (Stmt.cond (Operand.tmp 42) Stmt.skip (Stmt.exit 0))
    (Stmt.seq
      (Stmt.block 1
        (Stmt.seq
          (Stmt.region
            [SOper.mk (some 43) none (SOp.mv (Operand.tmp 41)),
              SOper.mk (some 44) none (SOp.idx 3 (Operand.tmp 39) (Operand.tmp 41)),
              SOper.mk (some 45) none (SOp.load true 3 (Operand.tmp 44)),
              SOper.mk (some 9) none
                (SOp.alloc true 106
                  (Value.agg (Array.mk [Value.int IntKind.i64 0, Value.int IntKind.i64 0, Value.slice none 0 0]))),
              SOper.mk (some 8) none (SOp.mv (Operand.tmp 43)),
              SOper.mk none none (SOp.store 3 (Operand.tmp 9) (Operand.tmp 45))]
            [2, 7, 8, 9, 39, 40, 41])
          (Stmt.seq
            (Stmt.region
              [SOper.mk (some 47) none (SOp.load true 4 (Operand.tmp 2)),
                SOper.mk (some 48) none (SOp.load true 3 (Operand.tmp 9)),
                SOper.mk (some 49) none (SOp.call (Operand.func 180) [Operand.tmp 47, Operand.tmp 48]),
                SOper.mk (some 46) none (SOp.mv (Operand.tmp 49)),
                SOper.mk (some 50) none (SOp.extract 0 (Operand.tmp 46)),
                SOper.mk (some 51) none (SOp.extract 1 (Operand.tmp 46)),
                SOper.mk (some 10) none
                  (SOp.alloc true 39 (Value.agg (Array.mk [Value.bool false, Value.int IntKind.i64 0]))),
                SOper.mk none none (SOp.store 2 (Operand.tmp 10) (Operand.tmp 50)),
                SOper.mk (some 11) none (SOp.mv (Operand.tmp 51))]
              [2, 7, 8, 9, 10, 11, 39, 40, 41])
            (Stmt.seq
              (Stmt.drawn
                [(false, SOper.mk (some 52) none (SOp.mv (Operand.tmp 11))),
                  (false, SOper.mk (some 53) none (SOp.un UnOp.not (Operand.tmp 52))),
                  (false, SOper.mk (some 54) none (SOp.mv (Operand.tmp 53))),
                  (false, SOper.mk (some 55) (some (54, false)) (SOp.load true 2 (Operand.tmp 10))),
                  (false, SOper.mk (some 56) (some (54, false)) (SOp.mv (Operand.tmp 7))),
                  (false, SOper.mk (some 57) (some (54, false)) (SOp.mv (Operand.tmp 8))),
                  (false, SOper.mk (some 58) (some (54, false)) (SOp.idx 2 (Operand.tmp 56) (Operand.tmp 57))),
                  (false, SOper.mk (some 59) (some (54, false)) (SOp.load true 2 (Operand.tmp 58))),
                  (false,
                    SOper.mk (some 60) (some (54, false))
                      (SOp.q (Qk.bin BinOp.neq 39 (Operand.tmp 55) (Operand.tmp 59)) [Operand.tmp 55, Operand.tmp 59])),
                  (false,
                    SOper.mk (some 61) none
                      (SOp.pick (Operand.tmp 54) (Operand.const (Value.bool true)) (Operand.tmp 60))),
                  (false, SOper.mk (some 62) none (SOp.mv (Operand.tmp 61))),
                  (false, SOper.mk (some 63) (some (62, false)) (SOp.load true 4 (Operand.tmp 2))),
                  (false, SOper.mk (some 64) (some (62, false)) (SOp.load true 3 (Operand.tmp 9))),
                  (false,
                    SOper.mk (some 65) (some (62, false))
                      (SOp.call (Operand.func 140) [Operand.tmp 63, Operand.tmp 64])),
                  (false, SOper.mk (some 66) (some (62, false)) (SOp.un UnOp.not (Operand.tmp 65))),
                  (false,
                    SOper.mk (some 67) none
                      (SOp.pick (Operand.tmp 62) (Operand.const (Value.bool true)) (Operand.tmp 66)))]
                [2, 7, 39, 40, 41, 67])
              (Stmt.cond (Operand.tmp 67)
                (Stmt.seq (Stmt.region [SOper.mk (some 4) none (SOp.mv (Operand.const (Value.bool false)))] [4])
                  Stmt.ret)
                Stmt.skip)))))
      (Stmt.region
        [SOper.mk (some 68) none (SOp.ibin BinOp.add (Operand.tmp 41) (Operand.const (Value.int IntKind.i64 1))),
          SOper.mk (some 41) none (SOp.mv (Operand.tmp 68))]
        [2, 7, 39, 40, 41])))
def S140_0 : Stmt :=
  Stmt.seq
  (Stmt.region
    [SOper.mk (some 2) none (SOp.box true 57 (Operand.tmp 0)),
      SOper.mk (some 3) none (SOp.box true 106 (Operand.tmp 1)),
      SOper.mk (some 4) none (SOp.mv (Operand.const (Value.bool false)))]
    [2, 3])
  (Stmt.seq
    (Stmt.seq
      (Stmt.region
        [SOper.mk (some 13) none (SOp.load true 4 (Operand.tmp 2)),
          SOper.mk (some 14) none (SOp.load true 3 (Operand.tmp 3)),
          SOper.mk (some 15) none (SOp.call (Operand.func 180) [Operand.tmp 13, Operand.tmp 14]),
          SOper.mk (some 12) none (SOp.mv (Operand.tmp 15)), SOper.mk (some 16) none (SOp.extract 0 (Operand.tmp 12)),
          SOper.mk (some 17) none (SOp.extract 1 (Operand.tmp 12)),
          SOper.mk (some 5) none (SOp.alloc true 39 (Value.agg (Array.mk [Value.bool false, Value.int IntKind.i64 0]))),
          SOper.mk none none (SOp.store 2 (Operand.tmp 5) (Operand.tmp 16)),
          SOper.mk (some 6) none (SOp.mv (Operand.tmp 17))]
        [2, 3, 6])
      (Stmt.seq
        (Stmt.region
          [SOper.mk (some 18) none (SOp.mv (Operand.tmp 6)), SOper.mk (some 19) none (SOp.un UnOp.not (Operand.tmp 18)),
            SOper.mk (some 20) none (SOp.mv (Operand.tmp 19)),
            SOper.mk (some 21) (some (20, false)) (SOp.load true 3 (Operand.tmp 3)),
            SOper.mk (some 22) (some (20, false)) (SOp.call (Operand.func 139) [Operand.tmp 21]),
            SOper.mk (some 23) none (SOp.pick (Operand.tmp 20) (Operand.const (Value.bool true)) (Operand.tmp 22))]
          [2, 3, 6, 23])
        (Stmt.cond (Operand.tmp 23)
          (Stmt.seq
            (Stmt.region
              [SOper.mk (some 24) none (SOp.mv (Operand.tmp 6)), SOper.mk (some 4) none (SOp.mv (Operand.tmp 24))] [4])
            Stmt.ret)
          Stmt.skip)))
    (Stmt.seq
      (Stmt.region
        [SOper.mk (some 25) none (SOp.fld 3 (Operand.tmp 2)),
          SOper.mk (some 26) none (SOp.load false 1 (Operand.tmp 25)),
          SOper.mk (some 27) none (SOp.fld 0 (Operand.tmp 3)),
          SOper.mk (some 28) none (SOp.load false 1 (Operand.tmp 27)),
          SOper.mk (some 29) none (SOp.idx 2 (Operand.tmp 26) (Operand.tmp 28)),
          SOper.mk (some 30) none (SOp.fld 1 (Operand.tmp 29)),
          SOper.mk (some 31) none (SOp.load false 1 (Operand.tmp 30)), SOper.mk (some 7) none (SOp.mv (Operand.tmp 31))]
        [2, 3, 7])
      (Stmt.seq
        (Stmt.seq
          (Stmt.region
            [SOper.mk (some 32) none (SOp.fld 2 (Operand.tmp 3)),
              SOper.mk (some 33) none (SOp.load false 1 (Operand.tmp 32)),
              SOper.mk (some 34) none (SOp.len false (Operand.tmp 33)),
              SOper.mk (some 35) none (SOp.mv (Operand.tmp 7)),
              SOper.mk (some 36) none (SOp.len false (Operand.tmp 35)),
              SOper.mk (some 37) none (SOp.ibin BinOp.neq (Operand.tmp 34) (Operand.tmp 36))]
            [2, 3, 7, 37])
          (Stmt.cond (Operand.tmp 37)
            (Stmt.seq (Stmt.region [SOper.mk (some 4) none (SOp.mv (Operand.const (Value.bool false)))] [4]) Stmt.ret)
            Stmt.skip))
        (Stmt.seq
          (Stmt.seq
            (Stmt.region
              [SOper.mk (some 38) none (SOp.fld 2 (Operand.tmp 3)),
                SOper.mk (some 39) none (SOp.load false 1 (Operand.tmp 38)),
                SOper.mk (some 40) none (SOp.len false (Operand.tmp 39)),
                SOper.mk (some 41) none (SOp.mv (Operand.const (Value.int IntKind.i64 0)))]
              [2, 7, 39, 40, 41])
            (Stmt.block 0 (Stmt.loop S140_1 [41] [2, 7, 39, 40])))
          (Stmt.seq (Stmt.region [SOper.mk (some 4) none (SOp.mv (Operand.const (Value.bool true)))] [4]) Stmt.ret)))))
def S140 : FnS := ⟨69, [(4, none)], S140_0⟩
theorem tr140 : trFn Try.prog 140 [2, 3, 5, 9, 10] [[2, 3], [2, 3, 6], [2, 3, 6, 23], [4], [2, 3, 7], [2, 3, 7, 37], [4], [2, 7, 39, 40, 41], [41], [2, 7, 39, 40], [2, 7, 39, 40, 41, 42], [2, 7, 8, 9, 39, 40, 41], [2, 7, 8, 9, 10, 11, 39, 40, 41], [2, 7, 39, 40, 41, 67], [0, 1, 2, 3, 4, 5, 6, 7, 8, 9, 10, 11, 12, 13, 14, 15], [], [], [0], [0, 1], [0, 1, 2], [0, 1, 2], [0, 1, 2], [0, 1, 2, 4, 5], [0, 1, 2, 4, 5, 6], [0, 1, 2, 3, 4, 5, 6, 7], [0, 1, 2, 3, 4, 5, 6, 7, 8], [0, 1, 2, 3, 4, 5, 6, 7, 8, 9], [0, 1, 2, 3, 4, 5, 6, 7, 8, 9, 10], [0, 1, 2, 3, 4, 5, 6, 7, 8, 9, 10], [0, 1, 2, 3, 4, 5, 6, 7, 8, 9, 10, 11, 12], [0, 1, 2, 3, 4, 5, 6, 7, 8, 9, 10, 11, 12, 13], [0, 1, 2, 3, 4, 5, 6, 7, 8, 9, 10, 11, 12, 13, 14], [4], [2, 7, 39, 40, 41], [4]] = some S140 := by kernel_rfl
end Go.Proofs.Ytniobbepliknmaa.V
/- The text of parlance/tree.Check as a statement (slots: 0 g, 1 t, 2 g, 3 t, 5 e); no condition. -/
namespace Go.Proofs.Ytniobbepliknmaa.V
open Go
def S69_0 : Stmt :=
  Stmt.seq
  (Stmt.region
    [SOper.mk (some 2) none (SOp.box true 57 (Operand.tmp 0)),
      SOper.mk (some 3) none (SOp.box true 106 (Operand.tmp 1)),
      SOper.mk (some 4) none (SOp.mv (Operand.const (Value.int IntKind.i64 0)))]
    [2, 3])
  (Stmt.seq
    (Stmt.seq
      (Stmt.region
        [SOper.mk (some 6) none (SOp.load true 4 (Operand.tmp 2)),
          SOper.mk (some 7) none (SOp.call (Operand.func 112) [Operand.tmp 6]),
          SOper.mk (some 5) none (SOp.mv (Operand.tmp 7))]
        [2, 3, 5])
      (Stmt.seq
        (Stmt.region
          [SOper.mk (some 8) none (SOp.mv (Operand.tmp 5)),
            SOper.mk (some 9) none (SOp.ibin BinOp.neq (Operand.tmp 8) (Operand.const (Value.int IntKind.i64 0)))]
          [2, 3, 5, 9])
        (Stmt.cond (Operand.tmp 9)
          (Stmt.seq
            (Stmt.region
              [SOper.mk (some 10) none (SOp.mv (Operand.tmp 5)), SOper.mk (some 4) none (SOp.mv (Operand.tmp 10))] [4])
            Stmt.ret)
          Stmt.skip)))
    (Stmt.seq
      (Stmt.seq
        (Stmt.region
          [SOper.mk (some 11) none (SOp.load true 3 (Operand.tmp 3)),
            SOper.mk (some 12) none (SOp.call (Operand.func 67) [Operand.tmp 11]),
            SOper.mk (some 13) none (SOp.ibin BinOp.gtr (Operand.tmp 12) (Operand.const (Value.int IntKind.i64 5000)))]
          [2, 3, 13])
        (Stmt.cond (Operand.tmp 13)
          (Stmt.seq (Stmt.region [SOper.mk (some 4) none (SOp.mv (Operand.const (Value.int IntKind.i64 2)))] [4])
            Stmt.ret)
          Stmt.skip))
      (Stmt.seq
        (Stmt.seq
          (Stmt.region
            [SOper.mk (some 14) none (SOp.load true 4 (Operand.tmp 2)),
              SOper.mk (some 15) none (SOp.load true 3 (Operand.tmp 3)),
              SOper.mk (some 16) none (SOp.call (Operand.func 140) [Operand.tmp 14, Operand.tmp 15]),
              SOper.mk (some 17) none (SOp.un UnOp.not (Operand.tmp 16))]
            [17])
          (Stmt.cond (Operand.tmp 17)
            (Stmt.seq (Stmt.region [SOper.mk (some 4) none (SOp.mv (Operand.const (Value.int IntKind.i64 3)))] [4])
              Stmt.ret)
            Stmt.skip))
        (Stmt.seq (Stmt.region [SOper.mk (some 4) none (SOp.mv (Operand.const (Value.int IntKind.i64 0)))] [4])
          Stmt.ret))))
def S69 : FnS := ⟨18, [(4, none)], S69_0⟩
theorem tr69 : trFn Try.prog 69 [2, 3] [[2, 3], [2, 3, 5], [2, 3, 5, 9], [4], [2, 3, 13], [4], [17], [4], [4]] = some S69 := by kernel_rfl
end Go.Proofs.Ytniobbepliknmaa.V
/- Which trees are those of a grammar: tree.symbol, valid, Check; no condition. -/
namespace Go.Proofs.Ytniobbepliknmaa.V
open Go
set_option linter.unusedVariables false
set_option linter.unusedSimpArgs false
attribute [local go_sem] e_seq e_region e_quiet e_join e_loop e_cond e_block e_exit e_ret e_skip e_fin e_kseq e_snrm e_sret e_sex e_bnrm e_bret e_bex e_rnrm e_rret e_res e_condC e_nil e_g e_mv g_mv e_pick g_pick pickC_eq e_ibin g_ibin ibinC_eq e_sbin g_sbin e_beq g_beq beqC_eq e_nilq g_nilq nilqC_sl nilqC_pt nilqC_mp e_un g_un unC_not unC_neg e_conv g_conv convC_eq e_fld g_fld fldC_ref fldC_ptr e_nilCheck g_nilCheck nilCheckC_ref nilCheckC_ptr nilCheckC_fun e_field g_field fieldC_eq e_len g_len lenC_sl lenC_str e_extract g_extract extractC_eq e_mkFunc e_build g_build e_idiv g_idiv idivC_eq e_ishift g_ishift ishiftC_eq e_idx g_idx e_idxA g_idxA e_load g_load e_loadB g_loadB atB_ref atB_v g_mkFunc loadC_ref loadC_ptr loadB_eq e_slc g_slc e_box boxC_loc boxC_esc e_alloc allocC_loc allocC_esc e_buildS e_store storeC_ref storeC_ptr storeB_eq e_append e_appz e_mk mkC_eq e_call callC_eq e_fn g_fn fnC_eq fnV_min' fnV_max' fnV_rune' e_q g_q e_a e_n g_call g_box g_alloc g_buildS g_store g_append g_mk g_a g_n g_dead e_dead e_callK e_drawn e_tree e_finJ e_tk e_tfin e_tno e_nbt_q e_nbt_qn e_nbt_a e_nbt_an e_nbt_fin e_drawnB e_bxb_nil e_bxb e_stB_none e_stB_some boxSt_store bs_mv bs_pick bs_ibin bs_idiv bs_ishift bs_sbin bs_beq bs_nilq bs_un bs_conv bs_box bs_alloc bs_build bs_buildS bs_load bs_fld bs_nilCheck bs_idx bs_idxA bs_field bs_slc bs_len bs_append bs_appz bs_mk bs_call bs_extract bs_mkFunc bs_fn bs_q bs_a bs_n bs_loadB bs_dead isBox_box e_early_nil e_early_t e_early_f e_nob_nil e_nob_none e_nob_some isBox_dead isBox_v isBox_ref e_dnil e_dk e_ek e_finB vcOps_vc1 e_dcons e_tq e_ekt e_tearly e_talt e_dearly look_nil look_c proj_nil proj_c looks_nil looks_c zip_nil zip_c val_tmp val_const val_func slv_v slv_box slv_ref slot_tmp slot_const slot_func slotL_v slotL_box slotL_ref put_some put_none updBox_c boxSet_box gd_eq slotVals_nil slotVals_c slotVals_b boxV_box boxOn_box slotsOn_nil slotsOn_c slotsOn_b resV_one resV_two vals_nil vals_c allOn_nil allOn_c partOn_nil partOn_c partVals_nil partVals_c fits_nil fits_c fillL_nil fillL_c mkv_one mkv_agg cellsV_agg cellsV_int cellsV_bool cellsV_slice cellsV_string cellsV_pointer cellsV_func cellsV_nilf cellsV_map one'_nil one'_c oc_int oc_bool oc_slice oc_string oc_pointer oc_func oc_nilf oc_map setC_eq iv_add iv_sub iv_mul iv_eql iv_neq iv_lss iv_leq iv_gtr iv_geq iok_add iok_sub iok_mul iok_eql iok_neq iok_lss iok_leq iok_gtr iok_geq pickV_bool args0_nil args0_c bnd_none bnd_some imp_bt imp_bf imp_ebt imp_ebf imp_eb1 imp_np imp_pp beq_tt beq_tf beq_ft beq_ff cond_or cond_and e_round e_meet Int.le_refl Int.toNat_zero decide_true decide_false Bool.or_false Bool.false_or Bool.true_or Bool.or_true Bool.and_false Bool.false_and Bool.bne_false Bool.bne_true beq_iff_eq Int.cast_ofNat_Int not_false_eq_true not_true_eq_false false_and and_false false_implies true_implies true_and and_true Bool.true_and Bool.and_true Bool.not_true Bool.not_false forall_const implies_true List.take_zero List.drop_zero List.take_succ_cons List.drop_succ_cons List.take_nil List.drop_nil List.length_cons List.length_nil List.nil_append List.append_nil List.cons_append Int.toNat_natCast decide_eq_true_eq decide_eq_false_iff_not cond_true cond_false and_self List.getElem?_cons_zero List.getElem?_cons_succ List.set_cons_zero List.set_cons_succ Option.some.injEq exists_eq_left' Nat.zero_add Nat.add_zero Nat.mul_one imp_self true_or or_true or_false false_or Bool.or_eq_true Bool.or_eq_false_iff Bool.and_eq_true Bool.and_eq_false_iff Bool.not_eq_true' Bool.not_eq_false'

/-- the symbol of a tree, and whether it exists -/
def symF (g : Gr) (x : Tr) : Sy × Bool :=
  if x.rule = -1 then (⟨true, x.term⟩, decide (0 ≤ x.term ∧ x.term < g.ts ∧ x.kids.length = 0))
  else if x.rule < 0 ∨ (g.rs.length : Int) ≤ x.rule then (⟨false, 0⟩, false)
  else (⟨false, (g.rs.getD x.rule.toNat ⟨0, []⟩).l⟩, decide (x.term = 0))
theorem tree_symbol {Γr : Ctx} {g : Gr} {B : Option Addr} {d : Nat} (hg : SlOk (lk Γr) B d g.rs) (x : Tr) {A : Option Addr} {c : Nat} (hs : x.kids.length ≤ 1048576) :
    Ret Try.prog 180 [.agg #[.int .i64 g.ts, .int .i64 g.ns, .int .i64 g.st, .slice B g.rs.length d], .agg #[.int .i64 x.rule, .int .i64 x.term, .slice A x.kids.length c]] Γr []
      (fun v Γ => Γ = [] ∧ v = .tuple #[sv (symF g x).1, .bool (symF g x).2]) := by
  generalize hR : (fun (v : Value) (Γ : Ctx) => Γ = [] ∧ _) = R
  refine ret_of_vc tr180 (Nat.le_of_ble_eq_true rfl) ?_
  simp -implicitDefEqProofs only [S180, S180_0, go_sem, Nat.reduceBEq, Nat.reduceAdd, Nat.reduceSub, Nat.reduceMul, Nat.reduceLeDiff, reduceCtorEq, ↓reduceIte, Int.reduceLT, Int.reduceLE, Int.reduceEq, Int.reduceNe]
  intro b1 b2 b3
  refine CallVC.read (tree_leaf _ _ _ _ _) ?_
  rintro v Γ' ⟨rfl, rfl⟩
  simp -implicitDefEqProofs only [go_sem, Nat.reduceBEq, Nat.reduceAdd, Nat.reduceSub, Nat.reduceMul, Nat.reduceLeDiff, reduceCtorEq, ↓reduceIte, Int.reduceLT, Int.reduceLE, Int.reduceEq, Int.reduceNe]
  refine ⟨fun h => Up.here ?_, fun h => ⟨fun h2 => Up.here ?_, fun h2 => ?_⟩⟩
  · subst hR
    refine ⟨rfl, ?_⟩
    have e : (decide (0 ≤ x.term) && decide (x.term < g.ts) && decide ((x.kids.length : Int) = 0)) = decide (0 ≤ x.term ∧ x.term < g.ts ∧ x.kids.length = 0) := by
      rw [Bool.eq_iff_iff]
      simp only [Bool.and_eq_true, decide_eq_true_eq]
      omega
    simp only [symF, if_pos h, sv, e]
  · subst hR
    refine ⟨rfl, ?_⟩
    simp only [symF, if_neg h, if_pos h2, sv]
  · have hk : x.rule.toNat < g.rs.length := by omega
    obtain ⟨b, o, hB, A2, c2, hs2, hc2⟩ := hg.ru hk
    refine s_idx hB (by omega) (by omega) ?_
    simp -implicitDefEqProofs only [go_sem, Nat.reduceBEq, Nat.reduceAdd, Nat.reduceSub, Nat.reduceMul, Nat.reduceLeDiff, reduceCtorEq, ↓reduceIte, Int.reduceLT, Int.reduceLE, Int.reduceEq, Int.reduceNe]
    refine s_ld0 (hc2 _ (Mem.le.refl _)) (by simp) (by simp) ?_
    simp -implicitDefEqProofs only [go_sem, Nat.reduceBEq, Nat.reduceAdd, Nat.reduceSub, Nat.reduceMul, Nat.reduceLeDiff, reduceCtorEq, ↓reduceIte, Int.reduceLT, Int.reduceLE, Int.reduceEq, Int.reduceNe]
    refine Up.here ?_
    subst hR
    refine ⟨rfl, ?_⟩
    rw [symF, if_neg h, if_neg (by omega)]
    simp [sv, List.getD, hk]
mutual
/-- a tree of a grammar -/
def validT (g : Gr) : Tr → Bool
  | ⟨r, t, ks⟩ => (symF g ⟨r, t, ks⟩).2 && (decide (r = -1) || validL g ks (g.rs.getD r.toNat ⟨0, []⟩).r)
def validL (g : Gr) : List Tr → List Sy → Bool
  | [], [] => true
  | k :: ks, s :: ss => (symF g k).2 && decide ((symF g k).1 = s) && validT g k && validL g ks ss
  | _, _ => false
end
theorem validT_eq (g : Gr) (x : Tr) : validT g x = ((symF g x).2 && (decide (x.rule = -1) || validL g x.kids (g.rs.getD x.rule.toNat ⟨0, []⟩).r)) := by
  cases x
  simp only [validT, Tr.rule, Tr.kids]
  congr
theorem validL_len {g : Gr} : ∀ {ks : List Tr} {ss : List Sy}, ks.length ≠ ss.length → validL g ks ss = false
  | [], [], h => absurd rfl h
  | [], s :: ss, _ => by simp [validL]
  | k :: ks, [], _ => by simp [validL]
  | k :: ks, s :: ss, h => by
    have := validL_len (g := g) (ks := ks) (ss := ss) (by simpa using h)
    simp [validL, this]
theorem validL_iff {g : Gr} : ∀ {ks : List Tr} {ss : List Sy}, ks.length = ss.length → (validL g ks ss = true ↔ ∀ (i : Nat) (hi : i < ks.length) (hj : i < ss.length), (symF g ks[i]).2 = true ∧ (symF g ks[i]).1 = ss[i] ∧ validT g ks[i] = true)
  | [], [], _ => by simp [validL]
  | k :: ks, s :: ss, h => by
    have ih := validL_iff (g := g) (ks := ks) (ss := ss) (by simpa using h)
    simp only [validL, Bool.and_eq_true, decide_eq_true_eq, ih]
    constructor
    · rintro ⟨⟨⟨h1, h2⟩, h3⟩, h4⟩ i hi hj
      cases i with
      | zero => exact ⟨h1, h2, h3⟩
      | succ i => exact h4 i (by simpa using hi) (by simpa using hj)
    · intro hall
      have h0 := hall 0 (by simp) (by simp)
      exact ⟨⟨⟨h0.1, h0.2.1⟩, h0.2.2⟩, fun i hi hj => hall (i + 1) (by simpa using hi) (by simpa using hj)⟩
theorem tree_valid {Γr : Ctx} {g : Gr} {B : Option Addr} {d : Nat} (hg : SlOk (lk Γr) B d g.rs) (x : Tr) : ∀ {A : Option Addr} {c : Nat}, SlOk (lk Γr) A c x.kids → numT x ≤ 1048576 →
    Ret Try.prog 140 [.agg #[.int .i64 g.ts, .int .i64 g.ns, .int .i64 g.st, .slice B g.rs.length d], .agg #[.int .i64 x.rule, .int .i64 x.term, .slice A x.kids.length c]] Γr [] (fun v Γ => Γ = [] ∧ v = .bool (validT g x)) := by
  refine Tr.ind (p := fun x => ∀ {A : Option Addr} {c : Nat}, SlOk (lk Γr) A c x.kids → numT x ≤ 1048576 → Ret Try.prog 140 [.agg #[.int .i64 g.ts, .int .i64 g.ns, .int .i64 g.st, .slice B g.rs.length d], .agg #[.int .i64 x.rule, .int .i64 x.term, .slice A x.kids.length c]] Γr [] (fun v Γ => Γ = [] ∧ v = .bool (validT g x))) (fun x ih A c hx hn => ?_) x
  generalize hR : (fun (v : Value) (Γ : Ctx) => Γ = [] ∧ _) = R
  refine ret_of_vc tr140 (Nat.le_of_ble_eq_true rfl) ?_
  have hn1 := numT_eq x
  have hlen := numL_len x.kids
  simp -implicitDefEqProofs only [S140, S140_0, go_sem, Nat.reduceBEq, Nat.reduceAdd, Nat.reduceSub, Nat.reduceMul, Nat.reduceLeDiff, reduceCtorEq, ↓reduceIte, Int.reduceLT, Int.reduceLE, Int.reduceEq, Int.reduceNe]
  intro b1 b2
  refine CallVC.read (tree_symbol hg x (by omega)) ?_
  rintro v Γ' ⟨rfl, rfl⟩
  simp -implicitDefEqProofs only [sv, go_sem, Nat.reduceBEq, Nat.reduceAdd, Nat.reduceSub, Nat.reduceMul, Nat.reduceLeDiff, reduceCtorEq, ↓reduceIte, Int.reduceLT, Int.reduceLE, Int.reduceEq, Int.reduceNe]
  cases hsy : (symF g x).2 with
  | false =>
    simp -implicitDefEqProofs only [go_sem, Nat.reduceBEq, Nat.reduceAdd, Nat.reduceSub, Nat.reduceMul, Nat.reduceLeDiff, reduceCtorEq, ↓reduceIte, Int.reduceLT, Int.reduceLE, Int.reduceEq, Int.reduceNe]
    refine ⟨.bool false, ?_⟩
    simp -implicitDefEqProofs only [go_sem, Nat.reduceBEq, Nat.reduceAdd, Nat.reduceSub, Nat.reduceMul, Nat.reduceLeDiff, reduceCtorEq, ↓reduceIte, Int.reduceLT, Int.reduceLE, Int.reduceEq, Int.reduceNe]
    refine Up.here ?_
    subst hR
    refine ⟨rfl, ?_⟩
    rw [validT_eq, hsy]
    rfl
  | true =>
    simp -implicitDefEqProofs only [go_sem, Nat.reduceBEq, Nat.reduceAdd, Nat.reduceSub, Nat.reduceMul, Nat.reduceLeDiff, reduceCtorEq, ↓reduceIte, Int.reduceLT, Int.reduceLE, Int.reduceEq, Int.reduceNe]
    refine CallVC.read (tree_leaf _ _ _ _ _) ?_
    rintro v Γ' ⟨rfl, rfl⟩
    simp -implicitDefEqProofs only [go_sem, Nat.reduceBEq, Nat.reduceAdd, Nat.reduceSub, Nat.reduceMul, Nat.reduceLeDiff, reduceCtorEq, ↓reduceIte, Int.reduceLT, Int.reduceLE, Int.reduceEq, Int.reduceNe]
    refine ⟨fun h => Up.here ?_, fun h => ?_⟩
    · subst hR
      refine ⟨rfl, ?_⟩
      rw [validT_eq, hsy, h]
      rfl
    have hr : 0 ≤ x.rule ∧ x.rule < g.rs.length := by
      rw [symF, if_neg h] at hsy
      split at hsy
      · cases hsy
      · omega
    have hk : x.rule.toNat < g.rs.length := by omega
    have hV : validT g x = validL g x.kids g.rs[x.rule.toNat].r := by
      rw [validT_eq, hsy]
      simp [h, List.getD, hk]
    obtain ⟨b, o, hB, A2, c2, hs2, hc2⟩ := hg.ru hk
    have hsh := hs2.short
    generalize g.rs[x.rule.toNat].r = rr at *
    refine s_idx hB (by omega) (by omega) ?_
    simp -implicitDefEqProofs only [go_sem, Nat.reduceBEq, Nat.reduceAdd, Nat.reduceSub, Nat.reduceMul, Nat.reduceLeDiff, reduceCtorEq, ↓reduceIte, Int.reduceLT, Int.reduceLE, Int.reduceEq, Int.reduceNe]
    refine s_ld (j := 1) (hc2 _ (Mem.le.refl _)) (by simp) (by simp) ?_
    simp -implicitDefEqProofs only [go_sem, Nat.reduceBEq, Nat.reduceAdd, Nat.reduceSub, Nat.reduceMul, Nat.reduceLeDiff, reduceCtorEq, ↓reduceIte, Int.reduceLT, Int.reduceLE, Int.reduceEq, Int.reduceNe]
    refine ⟨fun hne => Up.here ?_, fun heq => ?_⟩
    · subst hR
      exact ⟨rfl, by rw [hV, validL_len (by omega)]⟩
    have hll : x.kids.length = rr.length := by omega
    refine s_loop (fun f vs Γ => Γ = [] ∧ ∃ k : Nat, vs = [.v true (.int .i64 k)] ∧ k + f = x.kids.length ∧ ∀ (i : Nat) (hi : i < x.kids.length) (hj : i < rr.length), i < k → (symF g x.kids[i]).2 = true ∧ (symF g x.kids[i]).1 = rr[i] ∧ validT g x.kids[i] = true) x.kids.length (Up.here ⟨rfl, 0, rfl, by omega, fun i _ _ h => by omega⟩) ?_
    rintro f vs Γ ⟨rfl, k, rfl, hkf, hall⟩
    simp -implicitDefEqProofs only [S140_1, go_sem, Nat.reduceBEq, Nat.reduceAdd, Nat.reduceSub, Nat.reduceMul, Nat.reduceLeDiff, reduceCtorEq, ↓reduceIte, Int.reduceLT, Int.reduceLE, Int.reduceEq, Int.reduceNe]
    refine ⟨fun hlt => ?_, fun hge => ?_⟩
    · have hki : k < x.kids.length := by omega
      have hkj : k < rr.length := by omega
      have hm := List.getElem_mem hki
      have hnk := numL_mem hm
      have hn2 := numT_eq x.kids[k]
      have hl2 := numL_len x.kids[k].kids
      obtain ⟨b5, o5, hA5, A6, c6, hs6, hc6⟩ := hx.tr hki
      obtain ⟨b7, o7, hA7, hc7⟩ := hs2.sy hkj
      refine s_idx hA5 (by omega) (by omega) ?_
      simp -implicitDefEqProofs only [go_sem, Nat.reduceBEq, Nat.reduceAdd, Nat.reduceSub, Nat.reduceMul, Nat.reduceLeDiff, reduceCtorEq, ↓reduceIte, Int.reduceLT, Int.reduceLE, Int.reduceEq, Int.reduceNe]
      refine s_ld0 (hc6 _ (Mem.le.refl _)) (by simp) (by simp) ?_
      simp -implicitDefEqProofs only [go_sem, Nat.reduceBEq, Nat.reduceAdd, Nat.reduceSub, Nat.reduceMul, Nat.reduceLeDiff, reduceCtorEq, ↓reduceIte, Int.reduceLT, Int.reduceLE, Int.reduceEq, Int.reduceNe]
      intro b8
      refine CallVC.read (tree_symbol hg x.kids[k] (by omega)) ?_
      rintro v Γ' ⟨rfl, rfl⟩
      cases hsk : symF g x.kids[k] with
      | mk y ok =>
      have hfail : ¬ (ok = true ∧ y = rr[k] ∧ validT g x.kids[k] = true) → validT g x = false := fun q => by
        cases hv : validL g x.kids rr with
        | false => rw [hV, hv]
        | true =>
          exfalso
          have := (validL_iff hll).1 hv k hki hkj
          rw [hsk] at this
          exact q this
      simp -implicitDefEqProofs only [sv, go_sem, Nat.reduceBEq, Nat.reduceAdd, Nat.reduceSub, Nat.reduceMul, Nat.reduceLeDiff, reduceCtorEq, ↓reduceIte, Int.reduceLT, Int.reduceLE, Int.reduceEq, Int.reduceNe]
      cases ok with
      | false =>
        simp -implicitDefEqProofs only [go_sem, Nat.reduceBEq, Nat.reduceAdd, Nat.reduceSub, Nat.reduceMul, Nat.reduceLeDiff, reduceCtorEq, ↓reduceIte, Int.reduceLT, Int.reduceLE, Int.reduceEq, Int.reduceNe]
        intro b9
        refine s_idxg (b := 0) (o := 0) (by simp) ?_
        simp -implicitDefEqProofs only [go_sem, Nat.reduceBEq, Nat.reduceAdd, Nat.reduceSub, Nat.reduceMul, Nat.reduceLeDiff, reduceCtorEq, ↓reduceIte, Int.reduceLT, Int.reduceLE, Int.reduceEq, Int.reduceNe]
        refine s_ldg0 (cs := [.bool false, .int .i64 0]) (by simp) (by simp) (by simp) (by simp) ?_
        simp -implicitDefEqProofs only [go_sem, Nat.reduceBEq, Nat.reduceAdd, Nat.reduceSub, Nat.reduceMul, Nat.reduceLeDiff, reduceCtorEq, ↓reduceIte, Int.reduceLT, Int.reduceLE, Int.reduceEq, Int.reduceNe]
        refine ⟨.bool false, fun h => absurd h (by simp), ?_⟩
        simp -implicitDefEqProofs only [go_sem, Nat.reduceBEq, Nat.reduceAdd, Nat.reduceSub, Nat.reduceMul, Nat.reduceLeDiff, reduceCtorEq, ↓reduceIte, Int.reduceLT, Int.reduceLE, Int.reduceEq, Int.reduceNe]
        refine ⟨.bool false, ?_⟩
        simp -implicitDefEqProofs only [go_sem, Nat.reduceBEq, Nat.reduceAdd, Nat.reduceSub, Nat.reduceMul, Nat.reduceLeDiff, reduceCtorEq, ↓reduceIte, Int.reduceLT, Int.reduceLE, Int.reduceEq, Int.reduceNe]
        refine Up.here ?_
        subst hR
        exact ⟨rfl, by rw [hfail (by simp)]⟩
      | true =>
        simp -implicitDefEqProofs only [go_sem, Nat.reduceBEq, Nat.reduceAdd, Nat.reduceSub, Nat.reduceMul, Nat.reduceLeDiff, reduceCtorEq, ↓reduceIte, Int.reduceLT, Int.reduceLE, Int.reduceEq, Int.reduceNe]
        intro b9
        refine s_idx hA7 (by omega) (by omega) ?_
        simp -implicitDefEqProofs only [go_sem, Nat.reduceBEq, Nat.reduceAdd, Nat.reduceSub, Nat.reduceMul, Nat.reduceLeDiff, reduceCtorEq, ↓reduceIte, Int.reduceLT, Int.reduceLE, Int.reduceEq, Int.reduceNe]
        refine s_ld0 (hc7 _ (Mem.le.refl _)) (by simp) (by simp) ?_
        simp -implicitDefEqProofs only [go_sem, Nat.reduceBEq, Nat.reduceAdd, Nat.reduceSub, Nat.reduceMul, Nat.reduceLeDiff, reduceCtorEq, ↓reduceIte, Int.reduceLT, Int.reduceLE, Int.reduceEq, Int.reduceNe]
        refine s_q trivial (qr_neqsy y rr[k] _ _ _) ?_
        simp -implicitDefEqProofs only [go_sem, Nat.reduceBEq, Nat.reduceAdd, Nat.reduceSub, Nat.reduceMul, Nat.reduceLeDiff, reduceCtorEq, ↓reduceIte, Int.reduceLT, Int.reduceLE, Int.reduceEq, Int.reduceNe]
        by_cases e : y = rr[k]
        · refine ⟨fun _ => ⟨e, ?_⟩, fun h => by simp [e] at h⟩
          have e1 : decide (y = rr[k]) = true := decide_eq_true e
          simp -implicitDefEqProofs only [e1, go_sem, Nat.reduceBEq, Nat.reduceAdd, Nat.reduceSub, Nat.reduceMul, Nat.reduceLeDiff, reduceCtorEq, ↓reduceIte, Int.reduceLT, Int.reduceLE, Int.reduceEq, Int.reduceNe]
          refine CallVC.read (ih _ hm hs6 (by omega)) ?_
          rintro v Γ' ⟨rfl, rfl⟩
          simp -implicitDefEqProofs only [go_sem, Nat.reduceBEq, Nat.reduceAdd, Nat.reduceSub, Nat.reduceMul, Nat.reduceLeDiff, reduceCtorEq, ↓reduceIte, Int.reduceLT, Int.reduceLE, Int.reduceEq, Int.reduceNe]
          refine ⟨fun hv => Up.here ?_, fun hv => ?_⟩
          · subst hR
            exact ⟨rfl, by rw [hfail (by simp [hv])]⟩
          · simp (disch := omega) only [wrap_id]
            refine ⟨f - 1, by omega, Up.here ⟨rfl, k + 1, rfl, by omega, fun i hi hj hik => ?_⟩⟩
            by_cases ei : i = k
            · subst ei
              rw [hsk]
              exact ⟨rfl, e, hv⟩
            · exact hall i hi hj (by omega)
        · refine ⟨fun h => absurd h e, fun _ => ⟨.bool false, ?_⟩⟩
          have e1 : decide (y = rr[k]) = false := decide_eq_false e
          simp -implicitDefEqProofs only [e1, go_sem, Nat.reduceBEq, Nat.reduceAdd, Nat.reduceSub, Nat.reduceMul, Nat.reduceLeDiff, reduceCtorEq, ↓reduceIte, Int.reduceLT, Int.reduceLE, Int.reduceEq, Int.reduceNe]
          refine Up.here ?_
          subst hR
          exact ⟨rfl, by rw [hfail (by simp [e])]⟩
    · have hk : k = x.kids.length := by omega
      refine Up.here ?_
      subst hR
      refine ⟨rfl, ?_⟩
      rw [hV, (validL_iff hll).2 fun i hi hj => hall i hi hj (by omega)]
/-- the first error of a tree -/
def tcF (g : Gr) (x : Tr) : Int := if ckF g ≠ 0 then ckF g else if 5000 < szT x then 2 else if validT g x then 0 else 3
theorem tree_check {Γr : Ctx} {g : Gr} {B : Option Addr} {d : Nat} (hg : SlOk (lk Γr) B d g.rs) (x : Tr) {A : Option Addr} {c : Nat} (hx : SlOk (lk Γr) A c x.kids) (hn : numT x ≤ 1048576) :
    Ret Try.prog 69 [.agg #[.int .i64 g.ts, .int .i64 g.ns, .int .i64 g.st, .slice B g.rs.length d], .agg #[.int .i64 x.rule, .int .i64 x.term, .slice A x.kids.length c]] Γr [] (fun v Γ => Γ = [] ∧ v = .int .i64 (tcF g x)) := by
  generalize hR : (fun (v : Value) (Γ : Ctx) => Γ = [] ∧ _) = R
  refine ret_of_vc tr69 (Nat.le_of_ble_eq_true rfl) ?_
  simp -implicitDefEqProofs only [S69, S69_0, go_sem, Nat.reduceBEq, Nat.reduceAdd, Nat.reduceSub, Nat.reduceMul, Nat.reduceLeDiff, reduceCtorEq, ↓reduceIte, Int.reduceLT, Int.reduceLE, Int.reduceEq, Int.reduceNe]
  intro b1 b2
  refine CallVC.read (gram_check hg) ?_
  rintro v Γ' ⟨rfl, rfl⟩
  simp -implicitDefEqProofs only [go_sem, Nat.reduceBEq, Nat.reduceAdd, Nat.reduceSub, Nat.reduceMul, Nat.reduceLeDiff, reduceCtorEq, ↓reduceIte, Int.reduceLT, Int.reduceLE, Int.reduceEq, Int.reduceNe]
  refine ⟨fun h => Up.here ?_, fun h => ?_⟩
  · subst hR
    exact ⟨rfl, by rw [tcF, if_pos h]⟩
  refine CallVC.read (tree_size x hx hn) ?_
  rintro v Γ' ⟨rfl, rfl⟩
  simp -implicitDefEqProofs only [go_sem, Nat.reduceBEq, Nat.reduceAdd, Nat.reduceSub, Nat.reduceMul, Nat.reduceLeDiff, reduceCtorEq, ↓reduceIte, Int.reduceLT, Int.reduceLE, Int.reduceEq, Int.reduceNe]
  refine ⟨fun h2 => Up.here ?_, fun h2 => ?_⟩
  · subst hR
    exact ⟨rfl, by rw [tcF, if_neg (by simpa using h), if_pos (by omega)]⟩
  refine CallVC.read (tree_valid hg x hx hn) ?_
  rintro v Γ' ⟨rfl, rfl⟩
  simp -implicitDefEqProofs only [go_sem, Nat.reduceBEq, Nat.reduceAdd, Nat.reduceSub, Nat.reduceMul, Nat.reduceLeDiff, reduceCtorEq, ↓reduceIte, Int.reduceLT, Int.reduceLE, Int.reduceEq, Int.reduceNe]
  refine ⟨fun h3 => Up.here ?_, fun h3 => Up.here ?_⟩
  · subst hR
    exact ⟨rfl, by rw [tcF, if_neg (by simpa using h), if_neg (by omega), if_neg (by simp [h3])]⟩
  · subst hR
    exact ⟨rfl, by rw [tcF, if_neg (by simpa using h), if_neg (by omega), if_pos h3]⟩
end Go.Proofs.Ytniobbepliknmaa.V
/- Rows whose elements are changed one by one; no condition. -/
namespace Go.Proofs.Ytniobbepliknmaa.V
open Go
set_option linter.unusedVariables false
set_option linter.unusedSimpArgs false

theorem splice_get {cs new : List Value} {p m j : Nat} (hm : new.length = m) (hp : p + m ≤ cs.length) : (cs.take p ++ new ++ cs.drop (p + m))[j]? = if p ≤ j ∧ j < p + m then new[j - p]? else cs[j]? := by
  have h1 : (cs.take p).length = p := by simp; omega
  have h2 : (cs.take p ++ new).length = p + m := by rw [List.length_append, h1, hm]
  by_cases a : j < p
  · rw [if_neg (by omega), List.getElem?_append_left (by omega), List.getElem?_append_left (by omega), List.getElem?_take, if_pos a]
  · by_cases b : j < p + m
    · rw [if_pos ⟨by omega, b⟩, List.getElem?_append_left (by omega), List.getElem?_append_right (by omega), h1]
    · rw [if_neg (by omega), List.getElem?_append_right (by omega), h2, List.getElem?_drop]
      congr 1
      omega
theorem Row.put {g : PH} {e : TypeId} {sz n c i : Nat} {A : Option Addr} {cs : List Value} (h : Row g e sz (.slice A n c) n cs) (hi : i < n) :
    ∃ b o cur, A = some ⟨b, o, none⟩ ∧ g b = some (.cells cur e (0, 0)) ∧ o + i * sz + sz ≤ cur.size ∧ (∀ j, j < n * sz → cur[o + j]? = cs[j]?) ∧ cs.length = n * sz ∧
      ∀ x : Value, (cellsV x).length = sz → Row (upd g b (.cells (setC cur.toList (o + i * sz) sz x).toArray e)) e sz (.slice A n c) n (cs.take (i * sz) ++ cellsV x ++ cs.drop (i * sz + sz)) := by
  obtain ⟨h1, h2⟩ := h
  rcases h2 with ⟨q, _⟩ | ⟨b, o, cap, cur, q1, q2, q3, q4, q5, q6⟩
  · omega
  · simp only [Value.slice.injEq, true_and] at q1
    obtain ⟨rfl, rfl⟩ := q1
    have hle : (i + 1) * sz ≤ n * sz := Nat.mul_le_mul_right _ hi
    rw [Nat.add_mul, Nat.one_mul] at hle
    have hcap : n * sz ≤ (cap + 1) * sz := Nat.mul_le_mul_right _ q2
    have hcur : ∀ j, j < n * sz → cur[o + j]? = cs[j]? := fun j hj => by
      rw [← q6, List.getElem?_take, if_pos hj, List.getElem?_drop]
      simp
    refine ⟨b, o, cur, rfl, q4, by omega, hcur, h1, fun x hx => ⟨?_, .inr ⟨b, o, cap, _, rfl, q2, q3, upd_self _ _ _, ?_, ?_⟩⟩⟩
    · simp [hx]; omega
    · simp [setC, hx]; omega
    · apply List.ext_getElem?
      intro j
      rw [List.getElem?_take, List.getElem?_drop, splice_get hx (by omega)]
      simp only [List.toList_toArray, setC]
      rw [splice_get hx (by simp; omega)]
      by_cases a : j < n * sz
      · rw [if_pos a]
        by_cases b : i * sz ≤ j ∧ j < i * sz + sz
        · rw [if_pos (by omega), if_pos b]
          congr 1
          omega
        · rw [if_neg (by omega), if_neg b, ← hcur j a]
          simp
      · rw [if_neg a]
        split
        · omega
        · rw [List.getElem?_eq_none (by omega)]
/-- a row; what its elements lead to lies here and there -/
def BldM {α : Type} [Rep α] (g : PH) (Lf : Nat → Mem) (e : TypeId) (v : Value) (xs : List α) : Prop :=
  ∃ cs, Row g e (Rep.sz α) v xs.length cs ∧ ∀ i x, xs[i]? = some x → ∃ c, Rep.ok (Lf i) x c ∧ ∀ j, j < Rep.sz α → cs[i * Rep.sz α + j]? = c[j]?
theorem BldM.ofBld {α : Type} [Rep α] {g : PH} {L : Mem} {e : TypeId} {v : Value} {xs : List α} (h : Bld g L e v xs) : BldM g (fun _ => L) e v xs := h
theorem BldM.bld {α : Type} [Rep α] {g : PH} {Lf : Nat → Mem} {L : Mem} {e : TypeId} {v : Value} {xs : List α} (h : BldM g Lf e v xs) (hL : ∀ i, i < xs.length → Mem.le (Lf i) L) : Bld g L e v xs := by
  obtain ⟨cs, h1, h2⟩ := h
  refine ⟨cs, h1, fun i x hi => ?_⟩
  obtain ⟨c, q1, q2⟩ := h2 i x hi
  exact ⟨c, Rep.mono q1 (hL i (List.getElem?_eq_some_iff.1 hi).1), q2⟩
theorem BldM.mono {α : Type} [Rep α] {g : PH} {Lf Lg : Nat → Mem} {e : TypeId} {v : Value} {xs : List α} (h : BldM g Lf e v xs) (hL : ∀ i, i < xs.length → Mem.le (Lf i) (Lg i)) : BldM g Lg e v xs := by
  obtain ⟨cs, h1, h2⟩ := h
  refine ⟨cs, h1, fun i x hi => ?_⟩
  obtain ⟨c, q1, q2⟩ := h2 i x hi
  exact ⟨c, Rep.mono q1 (hL i (List.getElem?_eq_some_iff.1 hi).1), q2⟩
theorem BldM.heap {α : Type} [Rep α] {g g' : PH} {Lf : Nat → Mem} {e : TypeId} {v : Value} {xs : List α} (h : BldM g Lf e v xs) (hg : Mem.le (lk [g]) (lk [g'])) : BldM g' Lf e v xs := by
  obtain ⟨cs, ⟨h1, h2⟩, h3⟩ := h
  refine ⟨cs, ⟨h1, ?_⟩, h3⟩
  rcases h2 with q | ⟨b, o, cap, cur, q1, q2, q3, q4, q5⟩
  · exact .inl q
  · exact .inr ⟨b, o, cap, cur, q1, q2, q3, lk_one.1 (hg _ _ (lk_one.2 q4)), q5⟩
/-- an element, its place and its cells -/
theorem BldM.get {α : Type} [Rep α] {g : PH} {Lf : Nat → Mem} {e : TypeId} {A : Option Addr} {c i : Nat} {xs : List α} (h : BldM g Lf e (.slice A xs.length c) xs) (hi : i < xs.length) :
    ∃ b o cs, A = some ⟨b, o, none⟩ ∧ Rep.ok (Lf i) xs[i] cs ∧ ∀ Γ : Ctx, g ∈ Γ → Cells Γ b (o + i * Rep.sz α) cs := by
  obtain ⟨cs, h1, h2⟩ := h
  obtain ⟨b, o, cur, rfl, hb, hsz, hcur, hlen, _⟩ := h1.put hi
  obtain ⟨c', q1, q2⟩ := h2 i _ (List.getElem?_eq_getElem hi)
  refine ⟨b, o, c', rfl, q1, fun Γ hg => ⟨g, hg, cur, e, (0, 0), hb, fun j hj => ?_⟩⟩
  have hj' : j < Rep.sz α := by rw [← Rep.len q1]; exact hj
  have hle : (i + 1) * Rep.sz α ≤ xs.length * Rep.sz α := Nat.mul_le_mul_right _ hi
  rw [Nat.add_mul, Nat.one_mul] at hle
  rw [Nat.add_assoc, hcur _ (by omega), q2 j hj']
/-- an element is changed -/
theorem BldM.put {α : Type} [Rep α] {g : PH} {Lf : Nat → Mem} {L : Mem} {e : TypeId} {A : Option Addr} {c i : Nat} {xs : List α} {x : α} {new : Value} (h : BldM g Lf e (.slice A xs.length c) xs) (hi : i < xs.length) (hx : Rep.ok L x (cellsV new)) :
    ∃ b o cur, A = some ⟨b, o, none⟩ ∧ g b = some (.cells cur e (0, 0)) ∧ o + i * Rep.sz α + Rep.sz α ≤ cur.size ∧
      BldM (upd g b (.cells (setC cur.toList (o + i * Rep.sz α) (Rep.sz α) new).toArray e)) (fun j => if j = i then L else Lf j) e (.slice A xs.length c) (xs.set i x) := by
  obtain ⟨cs, h1, h2⟩ := h
  obtain ⟨b, o, cur, rfl, hb, hsz, hcur, hlen, hput⟩ := h1.put hi
  have hn := Rep.len hx
  refine ⟨b, o, cur, rfl, hb, hsz, _, by rw [List.length_set]; exact hput new hn, fun k y hk => ?_⟩
  have hkl : k < xs.length := by simpa using (List.getElem?_eq_some_iff.1 hk).1
  have hle : (i + 1) * Rep.sz α ≤ xs.length * Rep.sz α := Nat.mul_le_mul_right _ hi
  have hlk : (k + 1) * Rep.sz α ≤ xs.length * Rep.sz α := Nat.mul_le_mul_right _ hkl
  rw [Nat.add_mul, Nat.one_mul] at hle hlk
  by_cases e : k = i
  · subst e
    rw [List.getElem?_set_self hi] at hk
    cases hk
    refine ⟨_, by show Rep.ok (if k = k then L else Lf k) x _; rw [if_pos rfl]; exact hx, fun j hj => ?_⟩
    rw [splice_get hn (by omega), if_pos (by omega)]
    congr 1
    omega
  · rw [List.getElem?_set_ne (fun q => e q.symm)] at hk
    obtain ⟨c', q1, q2⟩ := h2 k y hk
    refine ⟨c', by show Rep.ok (if k = i then L else Lf k) y c'; rw [if_neg e]; exact q1, fun j hj => ?_⟩
    rw [splice_get hn (by omega), if_neg, q2 j hj]
    intro ⟨a1, a2⟩
    rcases Nat.lt_or_gt_of_ne e with q | q
    · have : (k + 1) * Rep.sz α ≤ i * Rep.sz α := Nat.mul_le_mul_right _ q
      rw [Nat.add_mul, Nat.one_mul] at this
      omega
    · have : (i + 1) * Rep.sz α ≤ k * Rep.sz α := Nat.mul_le_mul_right _ q
      rw [Nat.add_mul, Nat.one_mul] at this
      omega
end Go.Proofs.Ytniobbepliknmaa.V
/- The text of slices.Clone[[]parlance/api.Tree,parlance/api.Tree] as a statement (slots: 0 s, 1 s); no condition. -/
namespace Go.Proofs.Ytniobbepliknmaa.V
open Go
def S179_0 : Stmt :=
  Stmt.seq (Stmt.region [SOper.mk (some 2) none (SOp.mv (Operand.const (Value.slice none 0 0)))] [0])
  (Stmt.seq
    (Stmt.seq
      (Stmt.region
        [SOper.mk (some 3) none (SOp.mv (Operand.tmp 0)),
          SOper.mk (some 4) none (SOp.nilq 0 false (Operand.tmp 3) (Operand.const (Value.slice none 0 0)))]
        [0, 4])
      (Stmt.cond (Operand.tmp 4)
        (Stmt.seq (Stmt.region [SOper.mk (some 2) none (SOp.mv (Operand.const (Value.slice none 0 0)))] [2]) Stmt.ret)
        Stmt.skip))
    (Stmt.seq
      (Stmt.region
        [SOper.mk (some 5) none (SOp.buildS 106 0 [] []), SOper.mk (some 6) none (SOp.mv (Operand.tmp 0)),
          SOper.mk (some 7) none
            (SOp.append 104 106 3 40
              (Value.agg (Array.mk [Value.int IntKind.i64 0, Value.int IntKind.i64 0, Value.slice none 0 0]))
              (Operand.tmp 5) (Operand.tmp 6)),
          SOper.mk (some 2) none (SOp.mv (Operand.tmp 7))]
        [2])
      Stmt.ret))
def S179 : FnS := ⟨8, [(2, none)], S179_0⟩
theorem tr179 : trFn Try.prog 179 [] [[0], [0, 4], [2], [2]] = some S179 := by kernel_rfl
end Go.Proofs.Ytniobbepliknmaa.V
/- The text of parlance/tree.Clone as a statement (slots: 0 t, 1 t, 3 i); no condition. -/
namespace Go.Proofs.Ytniobbepliknmaa.V
open Go
def S138_1 : Stmt :=
  Stmt.seq
  (Stmt.region [SOper.mk (some 12) none (SOp.ibin BinOp.lss (Operand.tmp 11) (Operand.tmp 10))] [1, 2, 10, 11, 12])
  (Stmt.seq (Stmt.cond (Operand.tmp 12) Stmt.skip (Stmt.exit 0))
    (Stmt.seq
      (Stmt.block 1
        (Stmt.seq
          (Stmt.region
            [SOper.mk (some 13) none (SOp.mv (Operand.tmp 11)), SOper.mk (some 3) none (SOp.mv (Operand.tmp 13))]
            [1, 2, 3, 10, 11])
          (Stmt.drawn
            [(false, SOper.mk (some 14) none (SOp.fld 2 (Operand.tmp 1))),
              (true, SOper.mk (some 15) none (SOp.load false 1 (Operand.tmp 14))),
              (false, SOper.mk (some 16) none (SOp.mv (Operand.tmp 3))),
              (false, SOper.mk (some 17) none (SOp.fld 2 (Operand.tmp 1))),
              (false, SOper.mk (some 18) none (SOp.load false 1 (Operand.tmp 17))),
              (false, SOper.mk (some 19) none (SOp.mv (Operand.tmp 3))),
              (false, SOper.mk (some 20) none (SOp.idx 3 (Operand.tmp 18) (Operand.tmp 19))),
              (false, SOper.mk (some 21) none (SOp.load true 3 (Operand.tmp 20))),
              (false, SOper.mk (some 22) none (SOp.call (Operand.func 138) [Operand.tmp 21])),
              (false, SOper.mk (some 23) none (SOp.idx 3 (Operand.tmp 15) (Operand.tmp 16))),
              (false, SOper.mk none none (SOp.store 3 (Operand.tmp 23) (Operand.tmp 22)))]
            [1, 2, 10, 11])))
      (Stmt.region
        [SOper.mk (some 24) none (SOp.ibin BinOp.add (Operand.tmp 11) (Operand.const (Value.int IntKind.i64 1))),
          SOper.mk (some 11) none (SOp.mv (Operand.tmp 24))]
        [1, 2, 10, 11])))
def S138_0 : Stmt :=
  Stmt.seq
  (Stmt.region
    [SOper.mk (some 1) none (SOp.box true 106 (Operand.tmp 0)),
      SOper.mk (some 2) none
        (SOp.alloc true 106
          (Value.agg (Array.mk [Value.int IntKind.i64 0, Value.int IntKind.i64 0, Value.slice none 0 0])))]
    [1, 2])
  (Stmt.seq
    (Stmt.region
      [SOper.mk (some 4) none (SOp.fld 2 (Operand.tmp 1)), SOper.mk (some 5) none (SOp.load false 1 (Operand.tmp 4)),
        SOper.mk (some 6) none (SOp.call (Operand.func 179) [Operand.tmp 5]),
        SOper.mk (some 7) none (SOp.fld 2 (Operand.tmp 1)),
        SOper.mk none none (SOp.store 1 (Operand.tmp 7) (Operand.tmp 6))]
      [1, 2])
    (Stmt.seq
      (Stmt.seq
        (Stmt.region
          [SOper.mk (some 8) none (SOp.fld 2 (Operand.tmp 1)),
            SOper.mk (some 9) none (SOp.load false 1 (Operand.tmp 8)),
            SOper.mk (some 10) none (SOp.len false (Operand.tmp 9)),
            SOper.mk (some 11) none (SOp.mv (Operand.const (Value.int IntKind.i64 0)))]
          [1, 2, 10, 11])
        (Stmt.block 0 (Stmt.loop S138_1 [11] [1, 2, 10])))
      (Stmt.seq
        (Stmt.region
          [SOper.mk (some 25) none (SOp.load true 3 (Operand.tmp 1)),
            SOper.mk none none (SOp.store 3 (Operand.tmp 2) (Operand.tmp 25))]
          [2])
        Stmt.ret)))
def S138 : FnS := ⟨26, [(2, some (true, 3))], S138_0⟩
theorem tr138 : trFn Try.prog 138 [1, 2] [[1, 2], [1, 2], [1, 2, 10, 11], [11], [1, 2, 10], [1, 2, 10, 11, 12], [1, 2, 3, 10, 11], [1, 2, 10, 11], [0, 1, 2, 3, 4, 5, 6, 7, 8, 9, 10], [1], [], [0], [], [], [3], [], [3, 4, 5], [3, 4, 5, 6], [3, 4, 5, 6, 7], [0, 1, 2, 3, 4, 5, 6, 7, 8], [0, 1, 2, 3, 4, 5, 6, 7, 8, 9], [1, 2, 10, 11], [2]] = some S138 := by kernel_rfl
end Go.Proofs.Ytniobbepliknmaa.V
/- Copies of trees: tree.Clone; no condition. -/
namespace Go.Proofs.Ytniobbepliknmaa.V
open Go
set_option linter.unusedVariables false
set_option linter.unusedSimpArgs false
attribute [local go_sem] e_seq e_region e_quiet e_join e_loop e_cond e_block e_exit e_ret e_skip e_fin e_kseq e_snrm e_sret e_sex e_bnrm e_bret e_bex e_rnrm e_rret e_res e_condC e_nil e_g e_mv g_mv e_pick g_pick pickC_eq e_ibin g_ibin ibinC_eq e_sbin g_sbin e_beq g_beq beqC_eq e_nilq g_nilq nilqC_sl nilqC_pt nilqC_mp e_un g_un unC_not unC_neg e_conv g_conv convC_eq e_fld g_fld fldC_ref fldC_ptr e_nilCheck g_nilCheck nilCheckC_ref nilCheckC_ptr nilCheckC_fun e_field g_field fieldC_eq e_len g_len lenC_sl lenC_str e_extract g_extract extractC_eq e_mkFunc e_build g_build e_idiv g_idiv idivC_eq e_ishift g_ishift ishiftC_eq e_idx g_idx e_idxA g_idxA e_load g_load e_loadB g_loadB atB_ref atB_v g_mkFunc loadC_ref loadC_ptr loadB_eq e_slc g_slc e_box boxC_loc boxC_esc e_alloc allocC_loc allocC_esc e_buildS e_store storeC_ref storeC_ptr storeB_eq e_append e_appz e_mk mkC_eq e_call callC_eq e_fn g_fn fnC_eq fnV_min' fnV_max' fnV_rune' e_q g_q e_a e_n g_call g_box g_alloc g_buildS g_store g_append g_mk g_a g_n g_dead e_dead e_callK e_drawn e_tree e_finJ e_tk e_tfin e_tno e_nbt_q e_nbt_qn e_nbt_a e_nbt_an e_nbt_fin e_drawnB e_bxb_nil e_bxb e_stB_none e_stB_some boxSt_store bs_mv bs_pick bs_ibin bs_idiv bs_ishift bs_sbin bs_beq bs_nilq bs_un bs_conv bs_box bs_alloc bs_build bs_buildS bs_load bs_fld bs_nilCheck bs_idx bs_idxA bs_field bs_slc bs_len bs_append bs_appz bs_mk bs_call bs_extract bs_mkFunc bs_fn bs_q bs_a bs_n bs_loadB bs_dead isBox_box e_early_nil e_early_t e_early_f e_nob_nil e_nob_none e_nob_some isBox_dead isBox_v isBox_ref e_dnil e_dk e_ek e_finB vcOps_vc1 e_dcons e_tq e_ekt e_tearly e_talt e_dearly look_nil look_c proj_nil proj_c looks_nil looks_c zip_nil zip_c val_tmp val_const val_func slv_v slv_box slv_ref slot_tmp slot_const slot_func slotL_v slotL_box slotL_ref put_some put_none updBox_c boxSet_box gd_eq slotVals_nil slotVals_c slotVals_b boxV_box boxOn_box slotsOn_nil slotsOn_c slotsOn_b resV_one resV_two vals_nil vals_c allOn_nil allOn_c partOn_nil partOn_c partVals_nil partVals_c fits_nil fits_c fillL_nil fillL_c mkv_one mkv_agg cellsV_agg cellsV_int cellsV_bool cellsV_slice cellsV_string cellsV_pointer cellsV_func cellsV_nilf cellsV_map one'_nil one'_c oc_int oc_bool oc_slice oc_string oc_pointer oc_func oc_nilf oc_map setC_eq iv_add iv_sub iv_mul iv_eql iv_neq iv_lss iv_leq iv_gtr iv_geq iok_add iok_sub iok_mul iok_eql iok_neq iok_lss iok_leq iok_gtr iok_geq pickV_bool args0_nil args0_c bnd_none bnd_some imp_bt imp_bf imp_ebt imp_ebf imp_eb1 imp_np imp_pp beq_tt beq_tf beq_ft beq_ff cond_or cond_and e_round e_meet Int.le_refl Int.toNat_zero decide_true decide_false Bool.or_false Bool.false_or Bool.true_or Bool.or_true Bool.and_false Bool.false_and Bool.bne_false Bool.bne_true beq_iff_eq Int.cast_ofNat_Int not_false_eq_true not_true_eq_false false_and and_false false_implies true_implies true_and and_true Bool.true_and Bool.and_true Bool.not_true Bool.not_false forall_const implies_true List.take_zero List.drop_zero List.take_succ_cons List.drop_succ_cons List.take_nil List.drop_nil List.length_cons List.length_nil List.nil_append List.append_nil List.cons_append Int.toNat_natCast decide_eq_true_eq decide_eq_false_iff_not cond_true cond_false and_self List.getElem?_cons_zero List.getElem?_cons_succ List.set_cons_zero List.set_cons_succ Option.some.injEq exists_eq_left' Nat.zero_add Nat.add_zero Nat.mul_one imp_self true_or or_true or_false false_or Bool.or_eq_true Bool.or_eq_false_iff Bool.and_eq_true Bool.and_eq_false_iff Bool.not_eq_true' Bool.not_eq_false'

theorem clone_tr {Γr : Ctx} {A : Option Addr} {c : Nat} {xs : List Tr} (hx : SlOk (lk Γr) A c xs) (hs : xs.length ≤ 1048576) :
    Ret Try.prog 179 [.slice A xs.length c] Γr [] (fun v Γ => ∃ g, Γ = [g] ∧ Bld g (lk Γr) 106 v xs) := by
  generalize hR : (fun (v : Value) (Γ : Ctx) => ∃ g, _) = R
  refine ret_of_vc tr179 (Nat.le_of_ble_eq_true rfl) ?_
  simp -implicitDefEqProofs only [S179, S179_0, go_sem, Nat.reduceBEq, Nat.reduceAdd, Nat.reduceSub, Nat.reduceMul, Nat.reduceLeDiff, reduceCtorEq, ↓reduceIte, Int.reduceLT, Int.reduceLE, Int.reduceEq, Int.reduceNe]
  refine ⟨fun hn => Up.to [emp] ⟨(fun h hh k o hk => by simp at hh; subst hh; cases hk), (fun _ => by simp)⟩ ?_, fun hn => ?_⟩
  · have : A = none := by simpa using hn
    subst this
    have := hx.ofNone
    subst this
    subst hR
    exact ⟨_, rfl, Bld.nil _ _ _⟩
  · intro b
    refine s_appL (α := Tr) (xs := []) (ix := 0) (L := lk []) (L' := lk Γr) (L2 := lk Γr) rfl ⟨[], ⟨by simp, .inl ⟨rfl, _, rfl⟩⟩, by simp⟩ (lk_sub (by simp)) hx (lk_r _ _) (Mem.le.refl _) rfl (by simp; omega) (by simp [maxLen]; omega) ?_
    intro v g hB _
    simp -implicitDefEqProofs only [go_sem, Nat.reduceBEq, Nat.reduceAdd, Nat.reduceSub, Nat.reduceMul, Nat.reduceLeDiff, reduceCtorEq, ↓reduceIte, Int.reduceLT, Int.reduceLE, Int.reduceEq, Int.reduceNe]
    refine Up.here ?_
    subst hR
    exact ⟨_, rfl, hB⟩
/-- a tree of its own: the row of its kids can be changed -/
def OwnT (x : Tr) (v : Value) (Γ : Ctx) : Prop := ∃ gr gk w, Γ = [gr, gk] ∧ v = .agg #[.int .i64 x.rule, .int .i64 x.term, w] ∧ Bld gr (lk [gk]) 106 w x.kids
theorem OwnT.ok {x : Tr} {v : Value} {Γ : Ctx} (h : OwnT x v Γ) (hs : numT x ≤ 1048576) : ∃ A c, v = .agg #[.int .i64 x.rule, .int .i64 x.term, .slice A x.kids.length c] ∧ SlOk (lk Γ) A c x.kids := by
  obtain ⟨gr, gk, w, rfl, rfl, hB⟩ := h
  have h1 := numL_len x.kids
  have h2 := numT_eq x
  obtain ⟨A, c, rfl, hs⟩ := hB.slok (L' := lk [gr, gk]) (lk_sub (by simp)) (lk_sub (by simp)) (by omega)
  exact ⟨A, c, rfl, hs⟩
theorem tree_clone {Γr : Ctx} (x : Tr) : ∀ {A : Option Addr} {c : Nat}, SlOk (lk Γr) A c x.kids → numT x ≤ 1048576 →
    Ret Try.prog 138 [.agg #[.int .i64 x.rule, .int .i64 x.term, .slice A x.kids.length c]] Γr [] (OwnT x) := by
  refine Tr.ind (p := fun x => ∀ {A : Option Addr} {c : Nat}, SlOk (lk Γr) A c x.kids → numT x ≤ 1048576 → Ret Try.prog 138 [.agg #[.int .i64 x.rule, .int .i64 x.term, .slice A x.kids.length c]] Γr [] (OwnT x)) (fun x ih A c hx hn => ?_) x
  generalize hR : OwnT x = R
  refine ret_of_vc tr138 (Nat.le_of_ble_eq_true rfl) ?_
  have hn1 := numT_eq x
  have hlen := numL_len x.kids
  simp -implicitDefEqProofs only [S138, S138_0, go_sem, Nat.reduceBEq, Nat.reduceAdd, Nat.reduceSub, Nat.reduceMul, Nat.reduceLeDiff, reduceCtorEq, ↓reduceIte, Int.reduceLT, Int.reduceLE, Int.reduceEq, Int.reduceNe]
  intro b1 b2
  refine CallVC.read (clone_tr (hx.mono (lk_r _ _)) (by omega)) ?_
  rintro v Γ' ⟨g, rfl, hB⟩
  obtain ⟨A1, c1, rfl⟩ := hB.val
  simp -implicitDefEqProofs only [go_sem, Nat.reduceBEq, Nat.reduceAdd, Nat.reduceSub, Nat.reduceMul, Nat.reduceLeDiff, reduceCtorEq, ↓reduceIte, Int.reduceLT, Int.reduceLE, Int.reduceEq, Int.reduceNe]
  refine s_loop (fun f vs Γ => ∃ gr gk, Γ = [gr, gk] ∧ ∃ k : Nat, vs = [.v true (.int .i64 k)] ∧ k + f = x.kids.length ∧ BldM gr (fun i => if i < k then lk [gk] else lk Γr) 106 (.slice A1 x.kids.length c1) x.kids) x.kids.length
    (Up.to [g, emp] ⟨fun h hh k o hk => (by simp at hh; rcases hh with rfl | rfl; exact ⟨_, by simp, hk⟩; cases hk), fun _ => by simp [Disj, emp]⟩ ⟨g, emp, rfl, 0, rfl, by omega, BldM.mono (BldM.ofBld hB) fun i _ => by simp only [Nat.not_lt_zero, if_false]; exact lk_sub (by simp)⟩) ?_
  rintro f vs Γ ⟨gr, gk, rfl, k, rfl, hkf, hM⟩
  simp -implicitDefEqProofs only [S138_1, go_sem, Nat.reduceBEq, Nat.reduceAdd, Nat.reduceSub, Nat.reduceMul, Nat.reduceLeDiff, reduceCtorEq, ↓reduceIte, Int.reduceLT, Int.reduceLE, Int.reduceEq, Int.reduceNe]
  refine ⟨fun hlt => ?_, fun hge => ?_⟩
  · have hk : k < x.kids.length := by omega
    refine s_drawn [gr, gk] [] (Ent.refl _) ?_
    simp -implicitDefEqProofs only [go_sem, Nat.reduceBEq, Nat.reduceAdd, Nat.reduceSub, Nat.reduceMul, Nat.reduceLeDiff, reduceCtorEq, ↓reduceIte, Int.reduceLT, Int.reduceLE, Int.reduceEq, Int.reduceNe]
    obtain ⟨b, o, cs, rfl, hcs, hcell⟩ := hM.get hk
    simp only [Nat.lt_irrefl, if_false] at hcs
    obtain ⟨A2, c2, rfl, hs2⟩ := ok_tr.1 hcs
    have hm := List.getElem_mem hk
    have hnk := numL_mem hm
    refine s_idx rfl (by omega) (by omega) ?_
    simp -implicitDefEqProofs only [go_sem, Nat.reduceBEq, Nat.reduceAdd, Nat.reduceSub, Nat.reduceMul, Nat.reduceLeDiff, reduceCtorEq, ↓reduceIte, Int.reduceLT, Int.reduceLE, Int.reduceEq, Int.reduceNe]
    refine s_ld0 (hcell _ (by simp)) (by simp) (by simp) ?_
    simp -implicitDefEqProofs only [go_sem, Nat.reduceBEq, Nat.reduceAdd, Nat.reduceSub, Nat.reduceMul, Nat.reduceLeDiff, reduceCtorEq, ↓reduceIte, Int.reduceLT, Int.reduceLE, Int.reduceEq, Int.reduceNe]
    refine CallVC.pure (ih _ hm hs2 (by omega)) (by simp) ?_
    rintro v Γ' ⟨gr2, gk2, w2, rfl, rfl, hB2⟩
    simp -implicitDefEqProofs only [go_sem, Nat.reduceBEq, Nat.reduceAdd, Nat.reduceSub, Nat.reduceMul, Nat.reduceLeDiff, reduceCtorEq, ↓reduceIte, Int.reduceLT, Int.reduceLE, Int.reduceEq, Int.reduceNe]
    refine s_idx rfl (by omega) (by omega) ?_
    simp -implicitDefEqProofs only [go_sem, Nat.reduceBEq, Nat.reduceAdd, Nat.reduceSub, Nat.reduceMul, Nat.reduceLeDiff, reduceCtorEq, ↓reduceIte, Int.reduceLT, Int.reduceLE, Int.reduceEq, Int.reduceNe]
    have hn2 := numT_eq x.kids[k]
    have hl2 := numL_len x.kids[k].kids
    obtain ⟨A3, c3, rfl, hs3⟩ := hB2.slok (L' := lk [gr2, gk2]) (lk_sub (by simp)) (lk_sub (by simp)) (by omega)
    obtain ⟨b', o', cur, he, hb, hsz, hput⟩ := hM.put (L := lk [gr2, gk2]) (x := x.kids[k]) (new := .agg #[.int .i64 x.kids[k].rule, .int .i64 x.kids[k].term, .slice A3 x.kids[k].kids.length c3]) hk (ok_tr.2 ⟨A3, c3, rfl, hs3⟩)
    simp only [Option.some.injEq, Addr.mk.injEq, and_true] at he
    obtain ⟨rfl, rfl⟩ := he
    refine ⟨rfl, 2, gr, cur, 106, rfl, hb, hsz, ?_⟩
    simp -implicitDefEqProofs only [go_sem, Nat.reduceBEq, Nat.reduceAdd, Nat.reduceSub, Nat.reduceMul, Nat.reduceLeDiff, reduceCtorEq, ↓reduceIte, Int.reduceLT, Int.reduceLE, Int.reduceEq, Int.reduceNe]
    simp (disch := omega) only [wrap_id]
    rw [List.set_getElem_self] at hput
    exact ⟨f - 1, by omega, Up.sel [[2], [0, 1, 3]] (by decide) fun _ hle => ⟨_, _, rfl, k + 1, rfl, by omega, BldM.mono hput fun i hi => (by
      have h3 := hle [0, 1, 3] (by simp)
      simp only
      by_cases e1 : i = k
      · rw [if_pos e1, if_pos (by omega)]
        exact (lk_sub (by simp [V.sel])).trans h3
      · rw [if_neg e1]
        by_cases e2 : i < k
        · rw [if_pos e2, if_pos (by omega)]
          exact (lk_sub (by simp [V.sel])).trans h3
        · rw [if_neg e2, if_neg (by omega)]
          exact Mem.le.refl _)⟩⟩
  · have hk : k = x.kids.length := by omega
    refine Up.here ?_
    subst hR
    exact ⟨gr, gk, _, rfl, rfl, hM.bld fun i hi => by rw [if_pos (by omega)]; exact Mem.le.refl _⟩
end Go.Proofs.Ytniobbepliknmaa.V
/- The text of parlance/shrink.below as a statement (slots: 0 g, 1 t, 2 left, 3 g, 4 t, 5 left, 7 out, 8 _, 9 k); no condition. -/
namespace Go.Proofs.Ytniobbepliknmaa.V
open Go
def S137_1 : Stmt :=
  Stmt.seq
  (Stmt.region
    [SOper.mk (some 13) none (SOp.fld 3 (Operand.tmp 3)), SOper.mk (some 14) none (SOp.load false 1 (Operand.tmp 13)),
      SOper.mk (some 15) none (SOp.fld 0 (Operand.tmp 4)), SOper.mk (some 16) none (SOp.load false 1 (Operand.tmp 15)),
      SOper.mk (some 17) none (SOp.idx 2 (Operand.tmp 14) (Operand.tmp 16)),
      SOper.mk (some 18) none (SOp.fld 0 (Operand.tmp 17)), SOper.mk (some 19) none (SOp.load false 1 (Operand.tmp 18)),
      SOper.mk (some 20) none (SOp.mv (Operand.tmp 2)),
      SOper.mk (some 21) none (SOp.ibin BinOp.eql (Operand.tmp 19) (Operand.tmp 20))]
    [2, 3, 4, 7, 21])
  (Stmt.cond (Operand.tmp 21)
    (Stmt.region
      [SOper.mk (some 22) none (SOp.mv (Operand.tmp 7)), SOper.mk (some 23) none (SOp.load true 3 (Operand.tmp 4)),
        SOper.mk (some 24) none (SOp.call (Operand.func 138) [Operand.tmp 23]),
        SOper.mk (some 25) none
          (SOp.buildS 106 1 [Value.int IntKind.i64 0, Value.int IntKind.i64 0, Value.slice none 0 0]
            [(0, 3, Operand.tmp 24)]),
        SOper.mk (some 26) none
          (SOp.append 104 106 3 40
            (Value.agg (Array.mk [Value.int IntKind.i64 0, Value.int IntKind.i64 0, Value.slice none 0 0]))
            (Operand.tmp 22) (Operand.tmp 25)),
        SOper.mk (some 7) none (SOp.mv (Operand.tmp 26))]
      [2, 3, 4, 7])
    Stmt.skip)
def S137_2 : Stmt :=
  Stmt.seq
  (Stmt.region [SOper.mk (some 31) none (SOp.ibin BinOp.lss (Operand.tmp 30) (Operand.tmp 29))]
    [2, 3, 7, 28, 29, 30, 31])
  (Stmt.seq (Stmt.cond (Operand.tmp 31) Stmt.skip (Stmt.exit 0))
    (Stmt.seq
      (Stmt.block 1
        (Stmt.seq
          (Stmt.region
            [SOper.mk (some 32) none (SOp.idx 3 (Operand.tmp 28) (Operand.tmp 30)),
              SOper.mk (some 33) none (SOp.load true 3 (Operand.tmp 32)),
              SOper.mk (some 9) none
                (SOp.alloc true 106
                  (Value.agg (Array.mk [Value.int IntKind.i64 0, Value.int IntKind.i64 0, Value.slice none 0 0]))),
              SOper.mk none none (SOp.store 3 (Operand.tmp 9) (Operand.tmp 33))]
            [2, 3, 7, 9, 28, 29, 30])
          (Stmt.region
            [SOper.mk (some 34) none (SOp.mv (Operand.tmp 7)),
              SOper.mk (some 35) none (SOp.load true 4 (Operand.tmp 3)),
              SOper.mk (some 36) none (SOp.load true 3 (Operand.tmp 9)),
              SOper.mk (some 37) none (SOp.mv (Operand.tmp 2)),
              SOper.mk (some 38) none (SOp.call (Operand.func 137) [Operand.tmp 35, Operand.tmp 36, Operand.tmp 37]),
              SOper.mk (some 39) none
                (SOp.append 104 106 3 40
                  (Value.agg (Array.mk [Value.int IntKind.i64 0, Value.int IntKind.i64 0, Value.slice none 0 0]))
                  (Operand.tmp 34) (Operand.tmp 38)),
              SOper.mk (some 7) none (SOp.mv (Operand.tmp 39))]
            [2, 3, 7, 28, 29, 30])))
      (Stmt.region
        [SOper.mk (some 40) none (SOp.ibin BinOp.add (Operand.tmp 30) (Operand.const (Value.int IntKind.i64 1))),
          SOper.mk (some 30) none (SOp.mv (Operand.tmp 40))]
        [2, 3, 7, 28, 29, 30])))
def S137_3 : Stmt :=
  Stmt.seq
  (Stmt.seq
    (Stmt.region
      [SOper.mk (some 27) none (SOp.fld 2 (Operand.tmp 4)), SOper.mk (some 28) none (SOp.load false 1 (Operand.tmp 27)),
        SOper.mk (some 29) none (SOp.len false (Operand.tmp 28)),
        SOper.mk (some 30) none (SOp.mv (Operand.const (Value.int IntKind.i64 0)))]
      [2, 3, 7, 28, 29, 30])
    (Stmt.block 0 (Stmt.loop S137_2 [7, 30] [2, 3, 28, 29])))
  (Stmt.seq
    (Stmt.region [SOper.mk (some 41) none (SOp.mv (Operand.tmp 7)), SOper.mk (some 6) none (SOp.mv (Operand.tmp 41))]
      [6])
    Stmt.ret)
def S137_0 : Stmt :=
  Stmt.seq
  (Stmt.region
    [SOper.mk (some 3) none (SOp.box true 57 (Operand.tmp 0)),
      SOper.mk (some 4) none (SOp.box true 106 (Operand.tmp 1)),
      SOper.mk (some 6) none (SOp.mv (Operand.const (Value.slice none 0 0)))]
    [2, 3, 4])
  (Stmt.seq
    (Stmt.seq
      (Stmt.region
        [SOper.mk (some 10) none (SOp.fld 0 (Operand.tmp 4)),
          SOper.mk (some 11) none (SOp.load false 1 (Operand.tmp 10)),
          SOper.mk (some 12) none (SOp.ibin BinOp.lss (Operand.tmp 11) (Operand.const (Value.int IntKind.i64 0)))]
        [2, 3, 4, 12])
      (Stmt.cond (Operand.tmp 12)
        (Stmt.seq (Stmt.region [SOper.mk (some 6) none (SOp.mv (Operand.const (Value.slice none 0 0)))] [6]) Stmt.ret)
        Stmt.skip))
    (Stmt.seq (Stmt.region [SOper.mk (some 7) none (SOp.mv (Operand.const (Value.slice none 0 0)))] [2, 3, 4, 7])
      (Stmt.join S137_1 S137_3 [7] [2, 3, 4])))
def S137 : FnS := ⟨42, [(6, none)], S137_0⟩
theorem tr137 : trFn Try.prog 137 [3, 4, 9] [[2, 3, 4], [2, 3, 4, 12], [6], [2, 3, 4, 7], [7], [2, 3, 4], [2, 3, 4, 7, 21], [2, 3, 4, 7], [2, 3, 7, 28, 29, 30], [7, 30], [2, 3, 28, 29], [2, 3, 7, 28, 29, 30, 31], [2, 3, 7, 9, 28, 29, 30], [2, 3, 7, 28, 29, 30], [2, 3, 7, 28, 29, 30], [6]] = some S137 := by kernel_rfl
end Go.Proofs.Ytniobbepliknmaa.V
/- All subtrees of a nonterminal: shrink.below; no condition. -/
namespace Go.Proofs.Ytniobbepliknmaa.V
open Go
set_option linter.unusedVariables false
set_option linter.unusedSimpArgs false
attribute [local go_sem] e_seq e_region e_quiet e_join e_loop e_cond e_block e_exit e_ret e_skip e_fin e_kseq e_snrm e_sret e_sex e_bnrm e_bret e_bex e_rnrm e_rret e_res e_condC e_nil e_g e_mv g_mv e_pick g_pick pickC_eq e_ibin g_ibin ibinC_eq e_sbin g_sbin e_beq g_beq beqC_eq e_nilq g_nilq nilqC_sl nilqC_pt nilqC_mp e_un g_un unC_not unC_neg e_conv g_conv convC_eq e_fld g_fld fldC_ref fldC_ptr e_nilCheck g_nilCheck nilCheckC_ref nilCheckC_ptr nilCheckC_fun e_field g_field fieldC_eq e_len g_len lenC_sl lenC_str e_extract g_extract extractC_eq e_mkFunc e_build g_build e_idiv g_idiv idivC_eq e_ishift g_ishift ishiftC_eq e_idx g_idx e_idxA g_idxA e_load g_load e_loadB g_loadB atB_ref atB_v g_mkFunc loadC_ref loadC_ptr loadB_eq e_slc g_slc e_box boxC_loc boxC_esc e_alloc allocC_loc allocC_esc e_buildS e_store storeC_ref storeC_ptr storeB_eq e_append e_appz e_mk mkC_eq e_call callC_eq e_fn g_fn fnC_eq fnV_min' fnV_max' fnV_rune' e_q g_q e_a e_n g_call g_box g_alloc g_buildS g_store g_append g_mk g_a g_n g_dead e_dead e_callK e_drawn e_tree e_finJ e_tk e_tfin e_tno e_nbt_q e_nbt_qn e_nbt_a e_nbt_an e_nbt_fin e_drawnB e_bxb_nil e_bxb e_stB_none e_stB_some boxSt_store bs_mv bs_pick bs_ibin bs_idiv bs_ishift bs_sbin bs_beq bs_nilq bs_un bs_conv bs_box bs_alloc bs_build bs_buildS bs_load bs_fld bs_nilCheck bs_idx bs_idxA bs_field bs_slc bs_len bs_append bs_appz bs_mk bs_call bs_extract bs_mkFunc bs_fn bs_q bs_a bs_n bs_loadB bs_dead isBox_box e_early_nil e_early_t e_early_f e_nob_nil e_nob_none e_nob_some isBox_dead isBox_v isBox_ref e_dnil e_dk e_ek e_finB vcOps_vc1 e_dcons e_tq e_ekt e_tearly e_talt e_dearly look_nil look_c proj_nil proj_c looks_nil looks_c zip_nil zip_c val_tmp val_const val_func slv_v slv_box slv_ref slot_tmp slot_const slot_func slotL_v slotL_box slotL_ref put_some put_none updBox_c boxSet_box gd_eq slotVals_nil slotVals_c slotVals_b boxV_box boxOn_box slotsOn_nil slotsOn_c slotsOn_b resV_one resV_two vals_nil vals_c allOn_nil allOn_c partOn_nil partOn_c partVals_nil partVals_c fits_nil fits_c fillL_nil fillL_c mkv_one mkv_agg cellsV_agg cellsV_int cellsV_bool cellsV_slice cellsV_string cellsV_pointer cellsV_func cellsV_nilf cellsV_map one'_nil one'_c oc_int oc_bool oc_slice oc_string oc_pointer oc_func oc_nilf oc_map setC_eq iv_add iv_sub iv_mul iv_eql iv_neq iv_lss iv_leq iv_gtr iv_geq iok_add iok_sub iok_mul iok_eql iok_neq iok_lss iok_leq iok_gtr iok_geq pickV_bool args0_nil args0_c bnd_none bnd_some imp_bt imp_bf imp_ebt imp_ebf imp_eb1 imp_np imp_pp beq_tt beq_tf beq_ft beq_ff cond_or cond_and e_round e_meet Int.le_refl Int.toNat_zero decide_true decide_false Bool.or_false Bool.false_or Bool.true_or Bool.or_true Bool.and_false Bool.false_and Bool.bne_false Bool.bne_true beq_iff_eq Int.cast_ofNat_Int not_false_eq_true not_true_eq_false false_and and_false false_implies true_implies true_and and_true Bool.true_and Bool.and_true Bool.not_true Bool.not_false forall_const implies_true List.take_zero List.drop_zero List.take_succ_cons List.drop_succ_cons List.take_nil List.drop_nil List.length_cons List.length_nil List.nil_append List.append_nil List.cons_append Int.toNat_natCast decide_eq_true_eq decide_eq_false_iff_not cond_true cond_false and_self List.getElem?_cons_zero List.getElem?_cons_succ List.set_cons_zero List.set_cons_succ Option.some.injEq exists_eq_left' Nat.zero_add Nat.add_zero Nat.mul_one imp_self true_or or_true or_false false_or Bool.or_eq_true Bool.or_eq_false_iff Bool.and_eq_true Bool.and_eq_false_iff Bool.not_eq_true' Bool.not_eq_false'

theorem valid_rule {g : Gr} {x : Tr} (h : validT g x = true) : (x.rule = -1 ∧ x.kids = []) ∨ (x.rule ≠ -1 ∧ 0 ≤ x.rule ∧ x.rule < g.rs.length) := by
  rw [validT_eq] at h
  simp only [Bool.and_eq_true] at h
  have h1 := h.1
  unfold symF at h1
  split at h1
  · rename_i e
    simp only [decide_eq_true_eq] at h1
    exact .inl ⟨e, List.length_eq_zero_iff.1 h1.2.2⟩
  · split at h1
    · cases h1
    · exact .inr ⟨by assumption, by omega, by omega⟩
theorem valid_kids {g : Gr} {x : Tr} (h : validT g x = true) : ∀ k ∈ x.kids, validT g k = true := by
  rcases valid_rule h with ⟨_, e⟩ | ⟨e, _⟩
  · rw [e]; simp
  · rw [validT_eq] at h
    simp only [Bool.and_eq_true, Bool.or_eq_true, decide_eq_true_eq] at h
    have h2 := h.2.resolve_left e
    intro k hk
    by_cases hl : x.kids.length = (g.rs.getD x.rule.toNat ⟨0, []⟩).r.length
    · obtain ⟨i, hi, rfl⟩ := List.getElem_of_mem hk
      exact ((validL_iff hl).1 h2 i hi (by omega)).2.2
    · rw [validL_len hl] at h2
      cases h2
def leftF (g : Gr) (x : Tr) : Int := (g.rs.getD x.rule.toNat ⟨0, []⟩).l
mutual
/-- all subtrees of a nonterminal -/
def belowT (g : Gr) (l : Int) : Tr → List Tr
  | ⟨r, t, ks⟩ => if r < 0 then [] else (if (g.rs.getD r.toNat ⟨0, []⟩).l = l then [⟨r, t, ks⟩] else []) ++ belowL g l ks
def belowL (g : Gr) (l : Int) : List Tr → List Tr
  | [] => []
  | k :: ks => belowT g l k ++ belowL g l ks
end
theorem belowT_eq (g : Gr) (l : Int) (x : Tr) : belowT g l x = if x.rule < 0 then [] else (if leftF g x = l then [x] else []) ++ belowL g l x.kids := by
  cases x
  simp only [belowT, Tr.rule, Tr.kids, leftF]
  congr
theorem belowL_append (g : Gr) (l : Int) (a b : List Tr) : belowL g l (a ++ b) = belowL g l a ++ belowL g l b := by
  induction a with
  | nil => rfl
  | cons k a ih => simp only [List.cons_append, belowL, ih, List.append_assoc]
theorem belowL_mem {g : Gr} {l : Int} {y : Tr} {ks : List Tr} : y ∈ belowL g l ks ↔ ∃ k ∈ ks, y ∈ belowT g l k := by
  induction ks with
  | nil => simp [belowL]
  | cons k ks ih => simp [belowL, ih]
theorem belowL_len {g : Gr} {l : Int} {ks : List Tr} (h : ∀ k ∈ ks, (belowT g l k).length ≤ numT k) : (belowL g l ks).length ≤ numL ks := by
  induction ks with
  | nil => simp [belowL]
  | cons k ks ih =>
    have h1 := h k (by simp)
    have h2 := ih fun x hx => h x (by simp [hx])
    simp only [belowL, numL, List.length_append]
    omega
theorem belowT_len {g : Gr} {l : Int} (x : Tr) : (belowT g l x).length ≤ numT x := by
  refine Tr.ind (p := fun x => (belowT g l x).length ≤ numT x) (fun x ih => ?_) x
  rw [belowT_eq, numT_eq]
  have h1 := belowL_len ih
  split
  · simp
  · rw [List.length_append]
    split
    · simp; omega
    · simp; omega
theorem belowT_num {g : Gr} {l : Int} (x : Tr) : ∀ y ∈ belowT g l x, numT y ≤ numT x := by
  refine Tr.ind (p := fun x => ∀ y ∈ belowT g l x, numT y ≤ numT x) (fun x ih => ?_) x
  intro y hy
  rw [belowT_eq] at hy
  have h1 := numT_eq x
  split at hy
  · simp at hy
  · rcases List.mem_append.1 hy with hy | hy
    · split at hy
      · simp at hy; subst hy; exact Nat.le_refl _
      · simp at hy
    · obtain ⟨k, hk, hy⟩ := belowL_mem.1 hy
      have h2 := ih k hk y hy
      have h3 := numL_mem hk
      omega
theorem ent_emp2 (Γ : Ctx) : Ent Γ [emp, emp] := ⟨fun h hh k o hk => (by simp at hh; subst hh; cases hk), fun _ => by simp [Disj, emp]⟩
/-- a list of trees of its own -/
def OwnL (xs : List Tr) (v : Value) (Γ : Ctx) : Prop := ∃ go gl, Γ = [go, gl] ∧ Bld go (lk [gl]) 106 v xs
theorem shrink_below {Γr : Ctx} {g : Gr} {B : Option Addr} {d : Nat} (hg : SlOk (lk Γr) B d g.rs) (l : Int) (x : Tr) : ∀ {A : Option Addr} {c : Nat}, SlOk (lk Γr) A c x.kids → numT x ≤ 1048576 → validT g x = true →
    Ret Try.prog 137 [.agg #[.int .i64 g.ts, .int .i64 g.ns, .int .i64 g.st, .slice B g.rs.length d], .agg #[.int .i64 x.rule, .int .i64 x.term, .slice A x.kids.length c], .int .i64 l] Γr [] (OwnL (belowT g l x)) := by
  refine Tr.ind (p := fun x => ∀ {A : Option Addr} {c : Nat}, SlOk (lk Γr) A c x.kids → numT x ≤ 1048576 → validT g x = true → Ret Try.prog 137 [.agg #[.int .i64 g.ts, .int .i64 g.ns, .int .i64 g.st, .slice B g.rs.length d], .agg #[.int .i64 x.rule, .int .i64 x.term, .slice A x.kids.length c], .int .i64 l] Γr [] (OwnL (belowT g l x))) (fun x ih A c hx hn hv => ?_) x
  generalize hR : OwnL (belowT g l x) = R
  refine ret_of_vc tr137 (Nat.le_of_ble_eq_true rfl) ?_
  have hn1 := numT_eq x
  have hlen := numL_len x.kids
  simp -implicitDefEqProofs only [S137, S137_0, go_sem, Nat.reduceBEq, Nat.reduceAdd, Nat.reduceSub, Nat.reduceMul, Nat.reduceLeDiff, reduceCtorEq, ↓reduceIte, Int.reduceLT, Int.reduceLE, Int.reduceEq, Int.reduceNe]
  intro b1 b2
  refine ⟨fun h => Up.to _ (ent_emp2 _) ?_, fun h => ?_⟩
  · subst hR
    exact ⟨_, _, rfl, by rw [belowT_eq, if_pos h]; exact Bld.nil _ _ _⟩
  have hr : 0 ≤ x.rule ∧ x.rule < g.rs.length := by
    rcases valid_rule hv with ⟨e, _⟩ | ⟨_, e⟩
    · omega
    · exact e
  have hk : x.rule.toNat < g.rs.length := by omega
  have hlf : leftF g x = g.rs[x.rule.toNat].l := by simp [leftF, List.getD, hk]
  refine s_join (fun vs Γ => ∃ go gl v, Γ = [go, gl] ∧ vs = [.v true v] ∧ Bld go (lk [gl]) 106 v (if leftF g x = l then [x] else [])) ?_ ?_
  · obtain ⟨b, o, hB, A2, c2, hs2, hc2⟩ := hg.ru hk
    simp -implicitDefEqProofs only [S137_1, go_sem, Nat.reduceBEq, Nat.reduceAdd, Nat.reduceSub, Nat.reduceMul, Nat.reduceLeDiff, reduceCtorEq, ↓reduceIte, Int.reduceLT, Int.reduceLE, Int.reduceEq, Int.reduceNe]
    refine s_idx hB (by omega) (by omega) ?_
    simp -implicitDefEqProofs only [go_sem, Nat.reduceBEq, Nat.reduceAdd, Nat.reduceSub, Nat.reduceMul, Nat.reduceLeDiff, reduceCtorEq, ↓reduceIte, Int.reduceLT, Int.reduceLE, Int.reduceEq, Int.reduceNe]
    refine s_ld0 (hc2 _ (Mem.le.refl _)) (by simp) (by simp) ?_
    simp -implicitDefEqProofs only [go_sem, Nat.reduceBEq, Nat.reduceAdd, Nat.reduceSub, Nat.reduceMul, Nat.reduceLeDiff, reduceCtorEq, ↓reduceIte, Int.reduceLT, Int.reduceLE, Int.reduceEq, Int.reduceNe]
    refine ⟨fun he => ?_, fun he => Up.to _ (ent_emp2 _) ⟨_, _, _, rfl, rfl, by rw [if_neg (by rw [hlf]; exact he)]; exact Bld.nil _ _ _⟩⟩
    refine CallVC.read (tree_clone x hx hn) ?_
    rintro v Γ' ⟨gr, gk, w, rfl, rfl, hB2⟩
    obtain ⟨A3, c3, rfl, hs3⟩ := hB2.slok (L' := lk [gr, gk]) (lk_sub (by simp)) (lk_sub (by simp)) (by omega)
    simp -implicitDefEqProofs only [go_sem, Nat.reduceBEq, Nat.reduceAdd, Nat.reduceSub, Nat.reduceMul, Nat.reduceLeDiff, reduceCtorEq, ↓reduceIte, Int.reduceLT, Int.reduceLE, Int.reduceEq, Int.reduceNe]
    intro b
    refine s_app1 (α := Tr) (ix := 0) (L := lk []) (L' := lk [gr, gk]) (xs := []) rfl (Bld.nil _ _ _) (lk_sub (by simp)) (ok_tr.2 ⟨A3, c3, rfl, hs3⟩) (cells_lk lk_head) rfl (by simp) (by simp [maxLen]) ?_
    intro v g' hB' _
    simp -implicitDefEqProofs only [go_sem, Nat.reduceBEq, Nat.reduceAdd, Nat.reduceSub, Nat.reduceMul, Nat.reduceLeDiff, reduceCtorEq, ↓reduceIte, Int.reduceLT, Int.reduceLE, Int.reduceEq, Int.reduceNe]
    exact Up.sel [[0], [1, 2]] (by decide) fun _ hle => ⟨_, _, _, rfl, rfl, by rw [hlf, if_pos he]; exact hB'.mono (Mem.le.refl _) (hle [1, 2] (by simp))⟩
  rintro vs Γ ⟨go, gl, v, rfl, rfl, hB0⟩
  generalize hpre : (if leftF g x = l then [x] else []) = pre at *
  have hpl : pre.length ≤ 1 := by rw [← hpre]; split <;> simp
  simp -implicitDefEqProofs only [S137_3, go_sem, Nat.reduceBEq, Nat.reduceAdd, Nat.reduceSub, Nat.reduceMul, Nat.reduceLeDiff, reduceCtorEq, ↓reduceIte, Int.reduceLT, Int.reduceLE, Int.reduceEq, Int.reduceNe]
  refine s_loop (fun f vs Γ => ∃ go gl v, Γ = [go, gl] ∧ ∃ k : Nat, vs = [.v true v, .v true (.int .i64 k)] ∧ k + f = x.kids.length ∧ Bld go (lk [gl]) 106 v (pre ++ belowL g l (x.kids.take k))) x.kids.length (Up.here ⟨_, _, _, rfl, 0, rfl, by omega, by simpa [belowL] using hB0⟩) ?_
  rintro f vs Γ ⟨go, gl, v, rfl, k, rfl, hkf, hB⟩
  simp -implicitDefEqProofs only [S137_2, go_sem, Nat.reduceBEq, Nat.reduceAdd, Nat.reduceSub, Nat.reduceMul, Nat.reduceLeDiff, reduceCtorEq, ↓reduceIte, Int.reduceLT, Int.reduceLE, Int.reduceEq, Int.reduceNe]
  refine ⟨fun hlt => ?_, fun hge => ?_⟩
  · have hk : k < x.kids.length := by omega
    have hm := List.getElem_mem hk
    have hnk := numL_mem hm
    obtain ⟨b5, o5, hA5, A6, c6, hs6, hc6⟩ := hx.tr hk
    have hst : belowL g l (x.kids.take (k + 1)) = belowL g l (x.kids.take k) ++ belowT g l x.kids[k] := by
      rw [List.take_succ_eq_append_getElem hk, belowL_append]
      simp [belowL]
    have hl1 : (belowL g l (x.kids.take k)).length ≤ numL (x.kids.take k) := belowL_len fun y _ => belowT_len y
    have hl2 : (belowT g l x.kids[k]).length ≤ numT x.kids[k] := belowT_len _
    have hl3 := numL_append (x.kids.take k) (x.kids.drop k)
    rw [List.take_append_drop] at hl3
    refine s_idx hA5 (by omega) (by omega) ?_
    simp -implicitDefEqProofs only [go_sem, Nat.reduceBEq, Nat.reduceAdd, Nat.reduceSub, Nat.reduceMul, Nat.reduceLeDiff, reduceCtorEq, ↓reduceIte, Int.reduceLT, Int.reduceLE, Int.reduceEq, Int.reduceNe]
    refine s_ld0 (hc6 _ (lk_r _ _)) (by simp) (by simp) ?_
    simp -implicitDefEqProofs only [go_sem, Nat.reduceBEq, Nat.reduceAdd, Nat.reduceSub, Nat.reduceMul, Nat.reduceLeDiff, reduceCtorEq, ↓reduceIte, Int.reduceLT, Int.reduceLE, Int.reduceEq, Int.reduceNe]
    intro b7
    refine CallVC.pure (ih _ hm hs6 (by omega) (valid_kids hv _ hm)) (by simp) ?_
    rintro v2 Γ2 ⟨go2, gl2, rfl, hB2⟩
    obtain ⟨A7, c7, rfl, hs7⟩ := hB2.slok (L' := lk [go2, gl2]) (lk_sub (by simp)) (lk_sub (by simp)) (by omega)
    simp -implicitDefEqProofs only [go_sem, Nat.reduceBEq, Nat.reduceAdd, Nat.reduceSub, Nat.reduceMul, Nat.reduceLeDiff, reduceCtorEq, ↓reduceIte, Int.reduceLT, Int.reduceLE, Int.reduceEq, Int.reduceNe]
    refine s_appL (α := Tr) (ix := 2) (L := lk [gl]) (L' := lk [go2, gl2, gl]) (L2 := lk [go2, gl2]) rfl hB (lk_sub (by simp)) hs7 (lk_sub fun y hy => by simp at hy ⊢; rcases hy with h | h <;> simp [h]) (lk_sub fun y hy => by simp at hy ⊢; rcases hy with h | h <;> simp [h]) rfl (by rw [List.length_append]; omega) (by rw [List.length_append]; unfold maxLen; omega) ?_
    intro v' g' hB' _
    simp -implicitDefEqProofs only [go_sem, Nat.reduceBEq, Nat.reduceAdd, Nat.reduceSub, Nat.reduceMul, Nat.reduceLeDiff, reduceCtorEq, ↓reduceIte, Int.reduceLT, Int.reduceLE, Int.reduceEq, Int.reduceNe]
    simp (disch := omega) only [wrap_id]
    exact ⟨f - 1, by omega, Up.sel [[2], [0, 1, 3]] (by decide) fun _ hle => ⟨_, _, _, rfl, k + 1, rfl, by omega, by rw [hst, ← List.append_assoc]; exact hB'.mono (Mem.le.refl _) (hle [0, 1, 3] (by simp))⟩⟩
  · have hk : k = x.kids.length := by omega
    rw [hk, List.take_length] at hB
    refine Up.here ?_
    subst hR
    exact ⟨_, _, rfl, by rw [belowT_eq, if_neg (by omega), hpre]; exact hB⟩
end Go.Proofs.Ytniobbepliknmaa.V
/- The text of parlance/shrink.Smaller as a statement (slots: 0 g, 1 t, 2 g, 3 t, 5 out, 6 _, 7 k, 8 i, 9 k, 10 _, 11 v, 12 x); no condition. -/
namespace Go.Proofs.Ytniobbepliknmaa.V
open Go
def S65_1 : Stmt :=
  Stmt.seq
  (Stmt.region [SOper.mk (some 31) none (SOp.ibin BinOp.lss (Operand.tmp 30) (Operand.tmp 29))]
    [2, 3, 5, 28, 29, 30, 31])
  (Stmt.seq (Stmt.cond (Operand.tmp 31) Stmt.skip (Stmt.exit 0))
    (Stmt.seq
      (Stmt.block 1
        (Stmt.seq
          (Stmt.region
            [SOper.mk (some 32) none (SOp.idx 3 (Operand.tmp 28) (Operand.tmp 30)),
              SOper.mk (some 33) none (SOp.load true 3 (Operand.tmp 32)),
              SOper.mk (some 7) none
                (SOp.alloc true 106
                  (Value.agg (Array.mk [Value.int IntKind.i64 0, Value.int IntKind.i64 0, Value.slice none 0 0]))),
              SOper.mk none none (SOp.store 3 (Operand.tmp 7) (Operand.tmp 33))]
            [2, 3, 5, 7, 28, 29, 30])
          (Stmt.drawn
            [(false, SOper.mk (some 34) none (SOp.mv (Operand.tmp 5))),
              (false, SOper.mk (some 35) none (SOp.load true 4 (Operand.tmp 2))),
              (false, SOper.mk (some 36) none (SOp.load true 3 (Operand.tmp 7))),
              (false, SOper.mk (some 37) none (SOp.fld 3 (Operand.tmp 2))),
              (false, SOper.mk (some 38) none (SOp.load false 1 (Operand.tmp 37))),
              (false, SOper.mk (some 39) none (SOp.fld 0 (Operand.tmp 3))),
              (false, SOper.mk (some 40) none (SOp.load false 1 (Operand.tmp 39))),
              (false, SOper.mk (some 41) none (SOp.idx 2 (Operand.tmp 38) (Operand.tmp 40))),
              (false, SOper.mk (some 42) none (SOp.fld 0 (Operand.tmp 41))),
              (false, SOper.mk (some 43) none (SOp.load false 1 (Operand.tmp 42))),
              (false,
                SOper.mk (some 44) none (SOp.call (Operand.func 137) [Operand.tmp 35, Operand.tmp 36, Operand.tmp 43])),
              (false,
                SOper.mk (some 45) none
                  (SOp.append 104 106 3 40
                    (Value.agg (Array.mk [Value.int IntKind.i64 0, Value.int IntKind.i64 0, Value.slice none 0 0]))
                    (Operand.tmp 34) (Operand.tmp 44))),
              (false, SOper.mk (some 5) none (SOp.mv (Operand.tmp 45)))]
            [2, 3, 5, 28, 29, 30])))
      (Stmt.region
        [SOper.mk (some 46) none (SOp.ibin BinOp.add (Operand.tmp 30) (Operand.const (Value.int IntKind.i64 1))),
          SOper.mk (some 30) none (SOp.mv (Operand.tmp 46))]
        [2, 3, 5, 28, 29, 30])))
def S65_2 : Stmt :=
  Stmt.seq
  (Stmt.region [SOper.mk (some 60) none (SOp.ibin BinOp.lss (Operand.tmp 59) (Operand.tmp 58))]
    [2, 3, 5, 8, 48, 49, 50, 57, 58, 59, 60])
  (Stmt.seq (Stmt.cond (Operand.tmp 60) Stmt.skip (Stmt.exit 4))
    (Stmt.seq
      (Stmt.block 5
        (Stmt.seq
          (Stmt.region
            [SOper.mk (some 61) none (SOp.idx 3 (Operand.tmp 57) (Operand.tmp 59)),
              SOper.mk (some 62) none (SOp.load true 3 (Operand.tmp 61)),
              SOper.mk (some 11) none
                (SOp.alloc true 106
                  (Value.agg (Array.mk [Value.int IntKind.i64 0, Value.int IntKind.i64 0, Value.slice none 0 0]))),
              SOper.mk none none (SOp.store 3 (Operand.tmp 11) (Operand.tmp 62))]
            [2, 3, 5, 8, 11, 48, 49, 50, 57, 58, 59])
          (Stmt.seq
            (Stmt.region
              [SOper.mk (some 63) none (SOp.load true 3 (Operand.tmp 3)),
                SOper.mk (some 64) none (SOp.call (Operand.func 138) [Operand.tmp 63]),
                SOper.mk (some 12) none
                  (SOp.alloc true 106
                    (Value.agg (Array.mk [Value.int IntKind.i64 0, Value.int IntKind.i64 0, Value.slice none 0 0]))),
                SOper.mk none none (SOp.store 3 (Operand.tmp 12) (Operand.tmp 64))]
              [2, 3, 5, 8, 11, 12, 48, 49, 50, 57, 58, 59])
            (Stmt.seq
              (Stmt.region
                [SOper.mk (some 65) none (SOp.fld 2 (Operand.tmp 12)),
                  SOper.mk (some 66) none (SOp.load false 1 (Operand.tmp 65)),
                  SOper.mk (some 67) none (SOp.mv (Operand.tmp 8)),
                  SOper.mk (some 68) none (SOp.load true 3 (Operand.tmp 11)),
                  SOper.mk (some 69) none (SOp.idx 3 (Operand.tmp 66) (Operand.tmp 67)),
                  SOper.mk none none (SOp.store 3 (Operand.tmp 69) (Operand.tmp 68))]
                [2, 3, 5, 8, 12, 48, 49, 50, 57, 58, 59])
              (Stmt.region
                [SOper.mk (some 70) none (SOp.mv (Operand.tmp 5)),
                  SOper.mk (some 71) none (SOp.load true 3 (Operand.tmp 12)),
                  SOper.mk (some 72) none
                    (SOp.buildS 106 1 [Value.int IntKind.i64 0, Value.int IntKind.i64 0, Value.slice none 0 0]
                      [(0, 3, Operand.tmp 71)]),
                  SOper.mk (some 73) none
                    (SOp.append 104 106 3 40
                      (Value.agg (Array.mk [Value.int IntKind.i64 0, Value.int IntKind.i64 0, Value.slice none 0 0]))
                      (Operand.tmp 70) (Operand.tmp 72)),
                  SOper.mk (some 5) none (SOp.mv (Operand.tmp 73))]
                [2, 3, 5, 8, 48, 49, 50, 57, 58, 59])))))
      (Stmt.region
        [SOper.mk (some 74) none (SOp.ibin BinOp.add (Operand.tmp 59) (Operand.const (Value.int IntKind.i64 1))),
          SOper.mk (some 59) none (SOp.mv (Operand.tmp 74))]
        [2, 3, 5, 8, 48, 49, 50, 57, 58, 59])))
def S65_3 : Stmt :=
  Stmt.seq
  (Stmt.region [SOper.mk (some 51) none (SOp.ibin BinOp.lss (Operand.tmp 50) (Operand.tmp 49))]
    [2, 3, 5, 48, 49, 50, 51])
  (Stmt.seq (Stmt.cond (Operand.tmp 51) Stmt.skip (Stmt.exit 2))
    (Stmt.seq
      (Stmt.block 3
        (Stmt.seq
          (Stmt.region
            [SOper.mk (some 52) none (SOp.mv (Operand.tmp 50)),
              SOper.mk (some 53) none (SOp.idx 3 (Operand.tmp 48) (Operand.tmp 50)),
              SOper.mk (some 54) none (SOp.load true 3 (Operand.tmp 53)),
              SOper.mk (some 9) none
                (SOp.alloc true 106
                  (Value.agg (Array.mk [Value.int IntKind.i64 0, Value.int IntKind.i64 0, Value.slice none 0 0]))),
              SOper.mk (some 8) none (SOp.mv (Operand.tmp 52)),
              SOper.mk none none (SOp.store 3 (Operand.tmp 9) (Operand.tmp 54))]
            [2, 3, 5, 8, 9, 48, 49, 50])
          (Stmt.seq
            (Stmt.region
              [SOper.mk (some 55) none (SOp.load true 4 (Operand.tmp 2)),
                SOper.mk (some 56) none (SOp.load true 3 (Operand.tmp 9)),
                SOper.mk (some 57) none (SOp.call (Operand.func 65) [Operand.tmp 55, Operand.tmp 56]),
                SOper.mk (some 58) none (SOp.len false (Operand.tmp 57)),
                SOper.mk (some 59) none (SOp.mv (Operand.const (Value.int IntKind.i64 0)))]
              [2, 3, 5, 8, 48, 49, 50, 57, 58, 59])
            (Stmt.block 4 (Stmt.loop S65_2 [5, 59] [2, 3, 8, 48, 49, 50, 57, 58])))))
      (Stmt.region
        [SOper.mk (some 75) none (SOp.ibin BinOp.add (Operand.tmp 50) (Operand.const (Value.int IntKind.i64 1))),
          SOper.mk (some 50) none (SOp.mv (Operand.tmp 75))]
        [2, 3, 5, 48, 49, 50])))
def S65_0 : Stmt :=
  Stmt.seq
  (Stmt.region
    [SOper.mk (some 2) none (SOp.box true 57 (Operand.tmp 0)),
      SOper.mk (some 3) none (SOp.box true 106 (Operand.tmp 1)),
      SOper.mk (some 4) none (SOp.mv (Operand.const (Value.slice none 0 0)))]
    [2, 3])
  (Stmt.seq
    (Stmt.seq
      (Stmt.region
        [SOper.mk (some 13) none (SOp.load true 4 (Operand.tmp 2)),
          SOper.mk (some 14) none (SOp.load true 3 (Operand.tmp 3)),
          SOper.mk (some 15) none (SOp.call (Operand.func 69) [Operand.tmp 13, Operand.tmp 14]),
          SOper.mk (some 16) none (SOp.ibin BinOp.neq (Operand.tmp 15) (Operand.const (Value.int IntKind.i64 0))),
          SOper.mk (some 17) none (SOp.mv (Operand.tmp 16)),
          SOper.mk (some 18) (some (17, false)) (SOp.fld 0 (Operand.tmp 3)),
          SOper.mk (some 19) (some (17, false)) (SOp.load false 1 (Operand.tmp 18)),
          SOper.mk (some 20) (some (17, false))
            (SOp.ibin BinOp.lss (Operand.tmp 19) (Operand.const (Value.int IntKind.i64 0))),
          SOper.mk (some 21) none (SOp.pick (Operand.tmp 17) (Operand.const (Value.bool true)) (Operand.tmp 20)),
          SOper.mk (some 22) none (SOp.mv (Operand.tmp 21)),
          SOper.mk (some 23) (some (22, false)) (SOp.load true 3 (Operand.tmp 3)),
          SOper.mk (some 24) (some (22, false)) (SOp.call (Operand.func 67) [Operand.tmp 23]),
          SOper.mk (some 25) (some (22, false))
            (SOp.ibin BinOp.gtr (Operand.tmp 24) (Operand.const (Value.int IntKind.i64 60))),
          SOper.mk (some 26) none (SOp.pick (Operand.tmp 22) (Operand.const (Value.bool true)) (Operand.tmp 25))]
        [2, 3, 26])
      (Stmt.cond (Operand.tmp 26)
        (Stmt.seq (Stmt.region [SOper.mk (some 4) none (SOp.mv (Operand.const (Value.slice none 0 0)))] [4]) Stmt.ret)
        Stmt.skip))
    (Stmt.seq (Stmt.region [SOper.mk (some 5) none (SOp.mv (Operand.const (Value.slice none 0 0)))] [2, 3, 5])
      (Stmt.seq
        (Stmt.seq
          (Stmt.region
            [SOper.mk (some 27) none (SOp.fld 2 (Operand.tmp 3)),
              SOper.mk (some 28) none (SOp.load false 1 (Operand.tmp 27)),
              SOper.mk (some 29) none (SOp.len false (Operand.tmp 28)),
              SOper.mk (some 30) none (SOp.mv (Operand.const (Value.int IntKind.i64 0)))]
            [2, 3, 5, 28, 29, 30])
          (Stmt.block 0 (Stmt.loop S65_1 [5, 30] [2, 3, 28, 29])))
        (Stmt.seq
          (Stmt.seq
            (Stmt.region
              [SOper.mk (some 47) none (SOp.fld 2 (Operand.tmp 3)),
                SOper.mk (some 48) none (SOp.load false 1 (Operand.tmp 47)),
                SOper.mk (some 49) none (SOp.len false (Operand.tmp 48)),
                SOper.mk (some 50) none (SOp.mv (Operand.const (Value.int IntKind.i64 0)))]
              [2, 3, 5, 48, 49, 50])
            (Stmt.block 2 (Stmt.loop S65_3 [5, 50] [2, 3, 48, 49])))
          (Stmt.seq
            (Stmt.region
              [SOper.mk (some 76) none (SOp.mv (Operand.tmp 5)), SOper.mk (some 4) none (SOp.mv (Operand.tmp 76))] [4])
            Stmt.ret)))))
def S65 : FnS := ⟨77, [(4, none)], S65_0⟩
theorem tr65 : trFn Try.prog 65 [2, 3, 7, 9, 11, 12] [[2, 3], [2, 3, 26], [4], [2, 3, 5], [2, 3, 5, 28, 29, 30], [5, 30], [2, 3, 28, 29], [2, 3, 5, 28, 29, 30, 31], [2, 3, 5, 7, 28, 29, 30], [2, 3, 5, 28, 29, 30], [0, 1, 2, 3, 4, 5, 6, 7, 8, 9, 10, 11, 12], [], [], [], [], [], [3], [], [5], [3, 4, 5, 6], [3, 4, 5, 6, 7], [3, 4, 5, 6, 7, 8], [1, 2, 3, 4, 5, 6, 7, 8, 9], [0, 1, 2, 3, 4, 5, 6, 7, 8, 9, 10], [0, 1, 2, 3, 4, 5, 6, 7, 8, 9, 10, 11], [2, 3, 5, 28, 29, 30], [2, 3, 5, 48, 49, 50], [5, 50], [2, 3, 48, 49], [2, 3, 5, 48, 49, 50, 51], [2, 3, 5, 8, 9, 48, 49, 50], [2, 3, 5, 8, 48, 49, 50, 57, 58, 59], [5, 59], [2, 3, 8, 48, 49, 50, 57, 58], [2, 3, 5, 8, 48, 49, 50, 57, 58, 59, 60], [2, 3, 5, 8, 11, 48, 49, 50, 57, 58, 59], [2, 3, 5, 8, 11, 12, 48, 49, 50, 57, 58, 59], [2, 3, 5, 8, 12, 48, 49, 50, 57, 58, 59], [2, 3, 5, 8, 48, 49, 50, 57, 58, 59], [2, 3, 5, 8, 48, 49, 50, 57, 58, 59], [2, 3, 5, 48, 49, 50], [4]] = some S65 := by kernel_rfl
end Go.Proofs.Ytniobbepliknmaa.V
/- Smaller trees: shrink.Smaller; no condition. -/
namespace Go.Proofs.Ytniobbepliknmaa.V
open Go
set_option linter.unusedVariables false
set_option linter.unusedSimpArgs false
attribute [local go_sem] e_seq e_region e_quiet e_join e_loop e_cond e_block e_exit e_ret e_skip e_fin e_kseq e_snrm e_sret e_sex e_bnrm e_bret e_bex e_rnrm e_rret e_res e_condC e_nil e_g e_mv g_mv e_pick g_pick pickC_eq e_ibin g_ibin ibinC_eq e_sbin g_sbin e_beq g_beq beqC_eq e_nilq g_nilq nilqC_sl nilqC_pt nilqC_mp e_un g_un unC_not unC_neg e_conv g_conv convC_eq e_fld g_fld fldC_ref fldC_ptr e_nilCheck g_nilCheck nilCheckC_ref nilCheckC_ptr nilCheckC_fun e_field g_field fieldC_eq e_len g_len lenC_sl lenC_str e_extract g_extract extractC_eq e_mkFunc e_build g_build e_idiv g_idiv idivC_eq e_ishift g_ishift ishiftC_eq e_idx g_idx e_idxA g_idxA e_load g_load e_loadB g_loadB atB_ref atB_v g_mkFunc loadC_ref loadC_ptr loadB_eq e_slc g_slc e_box boxC_loc boxC_esc e_alloc allocC_loc allocC_esc e_buildS e_store storeC_ref storeC_ptr storeB_eq e_append e_appz e_mk mkC_eq e_call callC_eq e_fn g_fn fnC_eq fnV_min' fnV_max' fnV_rune' e_q g_q e_a e_n g_call g_box g_alloc g_buildS g_store g_append g_mk g_a g_n g_dead e_dead e_callK e_drawn e_tree e_finJ e_tk e_tfin e_tno e_nbt_q e_nbt_qn e_nbt_a e_nbt_an e_nbt_fin e_drawnB e_bxb_nil e_bxb e_stB_none e_stB_some boxSt_store bs_mv bs_pick bs_ibin bs_idiv bs_ishift bs_sbin bs_beq bs_nilq bs_un bs_conv bs_box bs_alloc bs_build bs_buildS bs_load bs_fld bs_nilCheck bs_idx bs_idxA bs_field bs_slc bs_len bs_append bs_appz bs_mk bs_call bs_extract bs_mkFunc bs_fn bs_q bs_a bs_n bs_loadB bs_dead isBox_box e_early_nil e_early_t e_early_f e_nob_nil e_nob_none e_nob_some isBox_dead isBox_v isBox_ref e_dnil e_dk e_ek e_finB vcOps_vc1 e_dcons e_tq e_ekt e_tearly e_talt e_dearly look_nil look_c proj_nil proj_c looks_nil looks_c zip_nil zip_c val_tmp val_const val_func slv_v slv_box slv_ref slot_tmp slot_const slot_func slotL_v slotL_box slotL_ref put_some put_none updBox_c boxSet_box gd_eq slotVals_nil slotVals_c slotVals_b boxV_box boxOn_box slotsOn_nil slotsOn_c slotsOn_b resV_one resV_two vals_nil vals_c allOn_nil allOn_c partOn_nil partOn_c partVals_nil partVals_c fits_nil fits_c fillL_nil fillL_c mkv_one mkv_agg cellsV_agg cellsV_int cellsV_bool cellsV_slice cellsV_string cellsV_pointer cellsV_func cellsV_nilf cellsV_map one'_nil one'_c oc_int oc_bool oc_slice oc_string oc_pointer oc_func oc_nilf oc_map setC_eq iv_add iv_sub iv_mul iv_eql iv_neq iv_lss iv_leq iv_gtr iv_geq iok_add iok_sub iok_mul iok_eql iok_neq iok_lss iok_leq iok_gtr iok_geq pickV_bool args0_nil args0_c bnd_none bnd_some imp_bt imp_bf imp_ebt imp_ebf imp_eb1 imp_np imp_pp beq_tt beq_tf beq_ft beq_ff cond_or cond_and e_round e_meet Int.le_refl Int.toNat_zero decide_true decide_false Bool.or_false Bool.false_or Bool.true_or Bool.or_true Bool.and_false Bool.false_and Bool.bne_false Bool.bne_true beq_iff_eq Int.cast_ofNat_Int not_false_eq_true not_true_eq_false false_and and_false false_implies true_implies true_and and_true Bool.true_and Bool.and_true Bool.not_true Bool.not_false forall_const implies_true List.take_zero List.drop_zero List.take_succ_cons List.drop_succ_cons List.take_nil List.drop_nil List.length_cons List.length_nil List.nil_append List.append_nil List.cons_append Int.toNat_natCast decide_eq_true_eq decide_eq_false_iff_not cond_true cond_false and_self List.getElem?_cons_zero List.getElem?_cons_succ List.set_cons_zero List.set_cons_succ Option.some.injEq exists_eq_left' Nat.zero_add Nat.add_zero Nat.mul_one imp_self true_or or_true or_false false_or Bool.or_eq_true Bool.or_eq_false_iff Bool.and_eq_true Bool.and_eq_false_iff Bool.not_eq_true' Bool.not_eq_false'

mutual
/-- smaller trees -/
def smT (g : Gr) : Tr → List Tr
  | ⟨r, t, ks⟩ => if tcF g ⟨r, t, ks⟩ ≠ 0 ∨ r < 0 ∨ 60 < szT ⟨r, t, ks⟩ then [] else belowL g (leftF g ⟨r, t, ks⟩) ks ++ (smL g 0 ks).map fun p => ⟨r, t, ks.set p.1 p.2⟩
def smL (g : Gr) (n : Nat) : List Tr → List (Nat × Tr)
  | [] => []
  | k :: ks => (smT g k).map (fun v => (n, v)) ++ smL g (n + 1) ks
end
theorem smT_eq (g : Gr) (x : Tr) : smT g x = if tcF g x ≠ 0 ∨ x.rule < 0 ∨ 60 < szT x then [] else belowL g (leftF g x) x.kids ++ (smL g 0 x.kids).map fun p => ⟨x.rule, x.term, x.kids.set p.1 p.2⟩ := by
  cases x
  simp only [smT, Tr.rule, Tr.kids, Tr.term]
  congr
theorem smL_append (g : Gr) (a b : List Tr) (n : Nat) : smL g n (a ++ b) = smL g n a ++ smL g (n + a.length) b := by
  induction a generalizing n with
  | nil => simp [smL]
  | cons k a ih =>
    simp only [List.cons_append, smL, ih, List.append_assoc, List.length_cons]
    rw [show n + 1 + a.length = n + (a.length + 1) by omega]
theorem smL_mem {g : Gr} {n i : Nat} {v : Tr} {ks : List Tr} (h : (i, v) ∈ smL g n ks) : ∃ j, i = n + j ∧ ∃ k, ks[j]? = some k ∧ v ∈ smT g k := by
  induction ks generalizing n with
  | nil => simp [smL] at h
  | cons k ks ih =>
    simp only [smL, List.mem_append, List.mem_map, Prod.mk.injEq] at h
    rcases h with ⟨w, hw, rfl, rfl⟩ | h
    · exact ⟨0, by simp, k, rfl, hw⟩
    · obtain ⟨j, rfl, k', h1, h2⟩ := ih h
      exact ⟨j + 1, by omega, k', by simpa using h1, h2⟩
theorem numL_set {ks : List Tr} {i : Nat} {k v : Tr} (h : ks[i]? = some k) : numL (ks.set i v) + numT k = numL ks + numT v := by
  induction ks generalizing i with
  | nil => simp at h
  | cons y ks ih =>
    cases i with
    | zero => simp at h; subst h; simp only [List.set_cons_zero, numL]; omega
    | succ i =>
      have := ih (i := i) (by simpa using h)
      simp only [List.set_cons_succ, numL]
      omega
theorem smT_num {g : Gr} (x : Tr) : ∀ y ∈ smT g x, numT y < numT x := by
  refine Tr.ind (p := fun x => ∀ y ∈ smT g x, numT y < numT x) (fun x ih => ?_) x
  intro y hy
  rw [smT_eq] at hy
  have h1 := numT_eq x
  split at hy
  · simp at hy
  · rcases List.mem_append.1 hy with hy | hy
    · obtain ⟨k, hk, hy⟩ := belowL_mem.1 hy
      have h2 := belowT_num k y hy
      have h3 := numL_mem hk
      omega
    · obtain ⟨⟨i, v⟩, hp, rfl⟩ := List.mem_map.1 hy
      obtain ⟨j, rfl, k, h2, h3⟩ := smL_mem hp
      have h4 := ih k (List.mem_of_getElem? h2) v h3
      have h5 := numL_set (v := v) h2
      have h6 : numT ⟨x.rule, x.term, x.kids.set (0 + j) v⟩ = 1 + numL (x.kids.set j v) := by rw [numT_eq]; simp only [Tr.kids, Nat.zero_add]
      show numT ⟨x.rule, x.term, x.kids.set (0 + j) v⟩ < numT x
      omega
theorem smL_len {g : Gr} {n : Nat} {ks : List Tr} (h : ∀ k ∈ ks, (smT g k).length ≤ numT k * numT k) : (smL g n ks).length ≤ numL ks * numL ks := by
  induction ks generalizing n with
  | nil => simp [smL]
  | cons k ks ih =>
    have h1 := h k (by simp)
    have h2 := ih (n := n + 1) fun x hx => h x (by simp [hx])
    simp only [smL, numL, List.length_append, List.length_map]
    have h3 : (numT k + numL ks) * (numT k + numL ks) = numT k * numT k + numT k * numL ks + (numL ks * numT k + numL ks * numL ks) := by rw [Nat.add_mul, Nat.mul_add, Nat.mul_add]
    omega
theorem smT_len {g : Gr} (x : Tr) : (smT g x).length ≤ numT x * numT x := by
  refine Tr.ind (p := fun x => (smT g x).length ≤ numT x * numT x) (fun x ih => ?_) x
  rw [smT_eq, numT_eq]
  have h1 := smL_len (n := 0) ih
  have h2 : (belowL g (leftF g x) x.kids).length ≤ numL x.kids := belowL_len fun y _ => belowT_len y
  have h3 : (1 + numL x.kids) * (1 + numL x.kids) = 1 * 1 + 1 * numL x.kids + (numL x.kids * 1 + numL x.kids * numL x.kids) := by rw [Nat.add_mul, Nat.mul_add, Nat.mul_add]
  split
  · simp
  · rw [List.length_append, List.length_map]
    omega
theorem lk_three {a b c d e : PH} (h : Mem.le (lk [a, b, c]) (lk [e])) : Mem.le (lk [a, b, c, d]) (lk [e, d]) := by
  rintro k o ⟨g, hg, hk⟩
  have h2 : ∀ y ∈ [a, b, c], y k = some o → ∃ z ∈ [e, d], z k = some o := fun y hy hyk => by
    obtain ⟨z, hz, hzk⟩ := h k o ⟨y, hy, hyk⟩
    exact ⟨z, by simp at hz; simp [hz], hzk⟩
  simp only [List.mem_cons, List.not_mem_nil, or_false] at hg
  rcases hg with rfl | rfl | rfl | rfl
  · exact h2 _ (by simp) hk
  · exact h2 _ (by simp) hk
  · exact h2 _ (by simp) hk
  · exact ⟨_, by simp, hk⟩
set_option maxHeartbeats 4000000 in
theorem shrink_smaller {Γr : Ctx} {g : Gr} {B : Option Addr} {d : Nat} (hg : SlOk (lk Γr) B d g.rs) (x : Tr) : ∀ {A : Option Addr} {c : Nat}, SlOk (lk Γr) A c x.kids → numT x ≤ 1048576 →
    Ret Try.prog 65 [.agg #[.int .i64 g.ts, .int .i64 g.ns, .int .i64 g.st, .slice B g.rs.length d], .agg #[.int .i64 x.rule, .int .i64 x.term, .slice A x.kids.length c]] Γr [] (OwnL (smT g x)) := by
  refine Tr.ind (p := fun x => ∀ {A : Option Addr} {c : Nat}, SlOk (lk Γr) A c x.kids → numT x ≤ 1048576 → Ret Try.prog 65 [.agg #[.int .i64 g.ts, .int .i64 g.ns, .int .i64 g.st, .slice B g.rs.length d], .agg #[.int .i64 x.rule, .int .i64 x.term, .slice A x.kids.length c]] Γr [] (OwnL (smT g x))) (fun x ih A c hx hn => ?_) x
  generalize hR : OwnL (smT g x) = R
  refine ret_of_vc tr65 (Nat.le_of_ble_eq_true rfl) ?_
  have hn1 := numT_eq x
  have hlen := numL_len x.kids
  simp -implicitDefEqProofs only [S65, S65_0, go_sem, Nat.reduceBEq, Nat.reduceAdd, Nat.reduceSub, Nat.reduceMul, Nat.reduceLeDiff, reduceCtorEq, ↓reduceIte, Int.reduceLT, Int.reduceLE, Int.reduceEq, Int.reduceNe]
  intro b1 b2
  refine CallVC.read (tree_check hg x hx hn) ?_
  rintro v Γ' ⟨rfl, rfl⟩
  simp -implicitDefEqProofs only [go_sem, Nat.reduceBEq, Nat.reduceAdd, Nat.reduceSub, Nat.reduceMul, Nat.reduceLeDiff, reduceCtorEq, ↓reduceIte, Int.reduceLT, Int.reduceLE, Int.reduceEq, Int.reduceNe]
  by_cases hq : ¬ (tcF g x = 0 ∧ ¬ x.rule < 0)
  · have hbad : smT g x = [] := by rw [smT_eq, if_pos (by omega)]
    have e1 : (!decide (tcF g x = 0) || decide (x.rule < 0)) = true := by
      by_cases a : tcF g x = 0 <;> by_cases b : x.rule < 0 <;> simp_all
    refine ⟨fun h => absurd h hq, fun _ => ⟨.int .i64 0, ?_⟩⟩
    simp -implicitDefEqProofs only [e1, go_sem, Nat.reduceBEq, Nat.reduceAdd, Nat.reduceSub, Nat.reduceMul, Nat.reduceLeDiff, reduceCtorEq, ↓reduceIte, Int.reduceLT, Int.reduceLE, Int.reduceEq, Int.reduceNe]
    refine Up.to _ (ent_emp2 _) ?_
    subst hR
    exact ⟨_, _, rfl, by rw [hbad]; exact Bld.nil _ _ _⟩
  obtain ⟨hq1, hq2⟩ := Decidable.not_not.1 hq
  refine ⟨fun _ => ⟨⟨hq1, hq2⟩, ?_⟩, fun h => by simp [hq1, hq2] at h⟩
  have e1 : decide (tcF g x = 0) = true := decide_eq_true hq1
  have e2 : decide (x.rule < 0) = false := decide_eq_false hq2
  simp -implicitDefEqProofs only [e1, e2, go_sem, Nat.reduceBEq, Nat.reduceAdd, Nat.reduceSub, Nat.reduceMul, Nat.reduceLeDiff, reduceCtorEq, ↓reduceIte, Int.reduceLT, Int.reduceLE, Int.reduceEq, Int.reduceNe]
  refine CallVC.read (tree_size x hx hn) ?_
  rintro v Γ' ⟨rfl, rfl⟩
  simp -implicitDefEqProofs only [go_sem, Nat.reduceBEq, Nat.reduceAdd, Nat.reduceSub, Nat.reduceMul, Nat.reduceLeDiff, reduceCtorEq, ↓reduceIte, Int.reduceLT, Int.reduceLE, Int.reduceEq, Int.reduceNe]
  refine ⟨fun h => Up.to _ (ent_emp2 _) ?_, fun h => ?_⟩
  · subst hR
    exact ⟨_, _, rfl, by rw [smT_eq, if_pos (by omega)]; exact Bld.nil _ _ _⟩
  have hsm : smT g x = belowL g (leftF g x) x.kids ++ (smL g 0 x.kids).map fun p => ⟨x.rule, x.term, x.kids.set p.1 p.2⟩ := by rw [smT_eq, if_neg (by omega)]
  have hv : validT g x = true := by
    unfold tcF at hq1
    split at hq1
    · omega
    · split at hq1
      · cases hq1
      · split at hq1
        · assumption
        · cases hq1
  have hr : 0 ≤ x.rule ∧ x.rule < g.rs.length := by
    rcases valid_rule hv with ⟨e, _⟩ | ⟨_, e⟩
    · omega
    · exact e
  have hkr : x.rule.toNat < g.rs.length := by omega
  have hlf : leftF g x = g.rs[x.rule.toNat].l := by simp [leftF, List.getD, hkr]
  obtain ⟨bB, oB, hB, A2, c2, hs2, hc2⟩ := hg.ru hkr
  have hmul : numL x.kids * numL x.kids ≤ 1048576 * 1048576 := Nat.mul_le_mul (by omega) (by omega)
  refine s_loop (fun f vs Γ => ∃ go gl v, Γ = [go, gl] ∧ ∃ k : Nat, vs = [.v true v, .v true (.int .i64 k)] ∧ k + f = x.kids.length ∧ Bld go (lk [gl]) 106 v (belowL g (leftF g x) (x.kids.take k))) x.kids.length (Up.to _ (ent_emp2 _) ⟨_, _, _, rfl, 0, rfl, by omega, Bld.nil _ _ _⟩) ?_
  rintro f vs Γ ⟨go, gl, v, rfl, k, rfl, hkf, hBl⟩
  simp -implicitDefEqProofs only [S65_1, go_sem, Nat.reduceBEq, Nat.reduceAdd, Nat.reduceSub, Nat.reduceMul, Nat.reduceLeDiff, reduceCtorEq, ↓reduceIte, Int.reduceLT, Int.reduceLE, Int.reduceEq, Int.reduceNe]
  refine ⟨fun hlt => ?_, fun hge => ?_⟩
  · have hk : k < x.kids.length := by omega
    have hm := List.getElem_mem hk
    have hnk := numL_mem hm
    obtain ⟨b5, o5, hA5, A6, c6, hs6, hc6⟩ := hx.tr hk
    have hst : belowL g (leftF g x) (x.kids.take (k + 1)) = belowL g (leftF g x) (x.kids.take k) ++ belowT g (leftF g x) x.kids[k] := by
      rw [List.take_succ_eq_append_getElem hk, belowL_append]
      simp [belowL]
    have hl1 : (belowL g (leftF g x) (x.kids.take k)).length ≤ numL (x.kids.take k) := belowL_len fun y _ => belowT_len y
    have hl2 : (belowT g (leftF g x) x.kids[k]).length ≤ numT x.kids[k] := belowT_len _
    have hl3 := numL_append (x.kids.take k) (x.kids.drop k)
    rw [List.take_append_drop] at hl3
    refine s_idx hA5 (by omega) (by omega) ?_
    simp -implicitDefEqProofs only [go_sem, Nat.reduceBEq, Nat.reduceAdd, Nat.reduceSub, Nat.reduceMul, Nat.reduceLeDiff, reduceCtorEq, ↓reduceIte, Int.reduceLT, Int.reduceLE, Int.reduceEq, Int.reduceNe]
    refine s_ld0 (hc6 _ (lk_r _ _)) (by simp) (by simp) ?_
    simp -implicitDefEqProofs only [go_sem, Nat.reduceBEq, Nat.reduceAdd, Nat.reduceSub, Nat.reduceMul, Nat.reduceLeDiff, reduceCtorEq, ↓reduceIte, Int.reduceLT, Int.reduceLE, Int.reduceEq, Int.reduceNe]
    intro b7
    refine s_idx hB (by omega) (by omega) ?_
    simp -implicitDefEqProofs only [go_sem, Nat.reduceBEq, Nat.reduceAdd, Nat.reduceSub, Nat.reduceMul, Nat.reduceLeDiff, reduceCtorEq, ↓reduceIte, Int.reduceLT, Int.reduceLE, Int.reduceEq, Int.reduceNe]
    refine s_ld0 (hc2 _ (lk_r _ _)) (by simp) (by simp) ?_
    simp -implicitDefEqProofs only [go_sem, Nat.reduceBEq, Nat.reduceAdd, Nat.reduceSub, Nat.reduceMul, Nat.reduceLeDiff, reduceCtorEq, ↓reduceIte, Int.reduceLT, Int.reduceLE, Int.reduceEq, Int.reduceNe]
    rw [← hlf]
    refine CallVC.pure (shrink_below hg (leftF g x) x.kids[k] hs6 (by omega) (valid_kids hv _ hm)) (by simp) ?_
    rintro v2 Γ2 ⟨go2, gl2, rfl, hB2⟩
    obtain ⟨A7, c7, rfl, hs7⟩ := hB2.slok (L' := lk [go2, gl2]) (lk_sub (by simp)) (lk_sub (by simp)) (by omega)
    simp -implicitDefEqProofs only [go_sem, Nat.reduceBEq, Nat.reduceAdd, Nat.reduceSub, Nat.reduceMul, Nat.reduceLeDiff, reduceCtorEq, ↓reduceIte, Int.reduceLT, Int.reduceLE, Int.reduceEq, Int.reduceNe]
    refine s_appL (α := Tr) (ix := 2) (L := lk [gl]) (L' := lk [go2, gl2, gl]) (L2 := lk [go2, gl2]) rfl hBl (lk_sub (by simp)) hs7 (lk_sub fun y hy => by simp at hy ⊢; rcases hy with h | h <;> simp [h]) (lk_sub fun y hy => by simp at hy ⊢; rcases hy with h | h <;> simp [h]) rfl (by omega) (by unfold maxLen; omega) ?_
    intro v' g' hB' _
    simp -implicitDefEqProofs only [go_sem, Nat.reduceBEq, Nat.reduceAdd, Nat.reduceSub, Nat.reduceMul, Nat.reduceLeDiff, reduceCtorEq, ↓reduceIte, Int.reduceLT, Int.reduceLE, Int.reduceEq, Int.reduceNe]
    simp (disch := omega) only [wrap_id]
    exact ⟨f - 1, by omega, Up.sel [[2], [0, 1, 3]] (by decide) fun _ hle => ⟨_, _, _, rfl, k + 1, rfl, by omega, by rw [hst]; exact hB'.mono (Mem.le.refl _) (hle [0, 1, 3] (by simp))⟩⟩
  have hk : k = x.kids.length := by omega
  rw [hk, List.take_length] at hBl
  clear hk
  have hpl : (belowL g (leftF g x) x.kids).length ≤ numL x.kids := belowL_len fun y _ => belowT_len y
  generalize belowL g (leftF g x) x.kids = pre at *
  refine s_loop (fun f vs Γ => ∃ go gl v, Γ = [go, gl] ∧ ∃ k : Nat, vs = [.v true v, .v true (.int .i64 k)] ∧ k + f = x.kids.length ∧ Bld go (lk [gl]) 106 v (pre ++ (smL g 0 (x.kids.take k)).map fun p => ⟨x.rule, x.term, x.kids.set p.1 p.2⟩)) x.kids.length (Up.here ⟨_, _, _, rfl, 0, rfl, by omega, by simpa [smL] using hBl⟩) ?_
  clear hBl hkf
  rintro f vs Γ ⟨go, gl, v, rfl, k, rfl, hkf, hBl⟩
  simp -implicitDefEqProofs only [S65_3, go_sem, Nat.reduceBEq, Nat.reduceAdd, Nat.reduceSub, Nat.reduceMul, Nat.reduceLeDiff, reduceCtorEq, ↓reduceIte, Int.reduceLT, Int.reduceLE, Int.reduceEq, Int.reduceNe]
  refine ⟨fun hlt => ?_, fun hge => ?_⟩
  · have hk : k < x.kids.length := by omega
    have hm := List.getElem_mem hk
    have hnk := numL_mem hm
    obtain ⟨b5, o5, hA5, A6, c6, hs6, hc6⟩ := hx.tr hk
    refine s_idx hA5 (by omega) (by omega) ?_
    simp -implicitDefEqProofs only [go_sem, Nat.reduceBEq, Nat.reduceAdd, Nat.reduceSub, Nat.reduceMul, Nat.reduceLeDiff, reduceCtorEq, ↓reduceIte, Int.reduceLT, Int.reduceLE, Int.reduceEq, Int.reduceNe]
    refine s_ld0 (hc6 _ (lk_r _ _)) (by simp) (by simp) ?_
    simp -implicitDefEqProofs only [go_sem, Nat.reduceBEq, Nat.reduceAdd, Nat.reduceSub, Nat.reduceMul, Nat.reduceLeDiff, reduceCtorEq, ↓reduceIte, Int.reduceLT, Int.reduceLE, Int.reduceEq, Int.reduceNe]
    intro b7
    refine CallVC.pure (ih _ hm hs6 (by omega)) (by simp) ?_
    rintro v2 Γ2 ⟨go2, gl2, rfl, hB2⟩
    have hw1 := smT_len (g := g) x.kids[k]
    have hw2 : numT x.kids[k] * numT x.kids[k] ≤ 1048576 * 1048576 := Nat.mul_le_mul (by omega) (by omega)
    have hw3 : (smL g 0 (x.kids.take k)).length ≤ 1048576 * 1048576 := by
      have h1 := smL_len (g := g) (n := 0) (ks := x.kids.take k) fun y _ => smT_len y
      have h2 := numL_append (x.kids.take k) (x.kids.drop k)
      rw [List.take_append_drop] at h2
      have h3 : numL (x.kids.take k) * numL (x.kids.take k) ≤ 1048576 * 1048576 := Nat.mul_le_mul (by omega) (by omega)
      omega
    have hst : smL g 0 (x.kids.take (k + 1)) = smL g 0 (x.kids.take k) ++ (smT g x.kids[k]).map (fun v => (k, v)) := by
      rw [List.take_succ_eq_append_getElem hk, smL_append]
      simp [smL]
      omega
    generalize smT g x.kids[k] = ws at *
    obtain ⟨A7, c7, rfl, hs7⟩ := hB2.slok (L' := lk [go2, gl2]) (lk_sub (by simp)) (lk_sub (by simp)) (by omega)
    simp -implicitDefEqProofs only [go_sem, Nat.reduceBEq, Nat.reduceAdd, Nat.reduceSub, Nat.reduceMul, Nat.reduceLeDiff, reduceCtorEq, ↓reduceIte, Int.reduceLT, Int.reduceLE, Int.reduceEq, Int.reduceNe]
    refine s_loop (fun f vs Γ => ∃ go gl gs v, Γ = [go, gl, gs] ∧ SlOk (lk [gs]) A7 c7 ws ∧ ∃ j : Nat, vs = [.v true v, .v true (.int .i64 j)] ∧ j + f = ws.length ∧ Bld go (lk [gl, gs]) 106 v ((pre ++ (smL g 0 (x.kids.take k)).map fun p => ⟨x.rule, x.term, x.kids.set p.1 p.2⟩) ++ (ws.take j).map fun w => ⟨x.rule, x.term, x.kids.set k w⟩)) ws.length
      (Up.sel [[2], [3], [0, 1]] (by decide) fun _ hle => ⟨_, _, _, _, rfl, hs7.mono (hle [0, 1] (by simp)), 0, rfl, by omega, by
        rw [List.take_zero, List.map_nil, List.append_nil]
        exact hBl.mono (Mem.le.refl _) ((hle [3] (by simp)).trans (lk_sub (by simp)))⟩) ?_
    clear hs7 hBl hB2
    rintro f2 vs Γ ⟨go, gl, gs, v, rfl, hs7, j, rfl, hjf, hBl⟩
    simp -implicitDefEqProofs only [S65_2, go_sem, Nat.reduceBEq, Nat.reduceAdd, Nat.reduceSub, Nat.reduceMul, Nat.reduceLeDiff, reduceCtorEq, ↓reduceIte, Int.reduceLT, Int.reduceLE, Int.reduceEq, Int.reduceNe]
    refine ⟨fun hlt => ?_, fun hge => ?_⟩
    · have hj : j < ws.length := by omega
      obtain ⟨b8, o8, hA7, A8, c8, hs8, hc8⟩ := hs7.tr hj
      have htk : ws.take (j + 1) = ws.take j ++ [ws[j]] := List.take_succ_eq_append_getElem hj
      generalize ws[j] = w at *
      refine s_idx hA7 (by omega) (by omega) ?_
      simp -implicitDefEqProofs only [go_sem, Nat.reduceBEq, Nat.reduceAdd, Nat.reduceSub, Nat.reduceMul, Nat.reduceLeDiff, reduceCtorEq, ↓reduceIte, Int.reduceLT, Int.reduceLE, Int.reduceEq, Int.reduceNe]
      refine s_ld0 (hc8 _ (lk_sub (by simp))) (by simp) (by simp) ?_
      simp -implicitDefEqProofs only [go_sem, Nat.reduceBEq, Nat.reduceAdd, Nat.reduceSub, Nat.reduceMul, Nat.reduceLeDiff, reduceCtorEq, ↓reduceIte, Int.reduceLT, Int.reduceLE, Int.reduceEq, Int.reduceNe]
      intro b9
      refine CallVC.pure (tree_clone x hx hn) (List.sublist_append_right [go, gl, gs] Γr) ?_
      rintro v3 Γ3 ⟨gr, gk, w3, rfl, rfl, hB3⟩
      obtain ⟨A9, c9, rfl⟩ := hB3.val
      simp -implicitDefEqProofs only [go_sem, Nat.reduceBEq, Nat.reduceAdd, Nat.reduceSub, Nat.reduceMul, Nat.reduceLeDiff, reduceCtorEq, ↓reduceIte, Int.reduceLT, Int.reduceLE, Int.reduceEq, Int.reduceNe]
      intro b10
      obtain ⟨bb, oo, cur, he, hb, hsz, hput⟩ := (BldM.ofBld hB3).put (L := lk [gs]) (x := w) (new := .agg #[.int .i64 w.rule, .int .i64 w.term, .slice A8 w.kids.length c8]) hk (ok_tr.2 ⟨A8, c8, rfl, hs8⟩)
      refine s_idx he (by omega) (by omega) ?_
      simp -implicitDefEqProofs only [go_sem, Nat.reduceBEq, Nat.reduceAdd, Nat.reduceSub, Nat.reduceMul, Nat.reduceLeDiff, reduceCtorEq, ↓reduceIte, Int.reduceLT, Int.reduceLE, Int.reduceEq, Int.reduceNe]
      refine ⟨0, gr, cur, 106, rfl, hb, hsz, ?_⟩
      simp -implicitDefEqProofs only [go_sem, Nat.reduceBEq, Nat.reduceAdd, Nat.reduceSub, Nat.reduceMul, Nat.reduceLeDiff, reduceCtorEq, ↓reduceIte, Int.reduceLT, Int.reduceLE, Int.reduceEq, Int.reduceNe]
      intro b11
      generalize hG : upd gr bb _ = gr2
      have hput : BldM gr2 (fun j => if j = k then lk [gs] else lk [gk]) 106 (.slice A9 x.kids.length c9) (x.kids.set k w) := by rw [← hG]; exact hput
      obtain ⟨A10, c10, he10, hs10⟩ := (BldM.bld (L := lk [gk, gs]) hput fun i _ => (by
        split
        · exact lk_sub (by simp)
        · exact lk_sub (by simp))).slok (L' := lk [gr2, gk, gl, gs]) (lk_sub (by simp)) (lk_sub fun y hy => by simp at hy ⊢; rcases hy with h | h <;> simp [h]) (by rw [List.length_set]; omega)
      simp only [Value.slice.injEq] at he10
      obtain ⟨rfl, _, rfl⟩ := he10
      refine s_app1 (α := Tr) (ix := 3) (L := lk [gl, gs]) (x := ⟨x.rule, x.term, x.kids.set k w⟩) rfl hBl (lk_sub fun y hy => by simp at hy ⊢; rcases hy with h | h <;> simp [h]) (ok_tr.2 ⟨A9, c9, by simp [Tr.rule, Tr.term, Tr.kids], hs10⟩) (cells_lk lk_head) rfl (by simp only [List.length_append, List.length_map, List.length_take]; omega) (by simp only [List.length_append, List.length_map, List.length_take]; unfold maxLen; omega) ?_
      intro v' g' hB' _
      simp -implicitDefEqProofs only [go_sem, Nat.reduceBEq, Nat.reduceAdd, Nat.reduceSub, Nat.reduceMul, Nat.reduceLeDiff, reduceCtorEq, ↓reduceIte, Int.reduceLT, Int.reduceLE, Int.reduceEq, Int.reduceNe]
      simp (disch := omega) only [wrap_id]
      exact ⟨f2 - 1, by omega, Up.sel [[3], [1, 2, 4], [5]] (by decide) fun _ hle => ⟨_, _, _, _, rfl, hs7, j + 1, rfl, by omega, by
        rw [htk, List.map_append, ← List.append_assoc]
        exact hB'.mono (Mem.le.refl _) (lk_three (hle [1, 2, 4] (by simp)))⟩⟩
    · have hj : j = ws.length := by omega
      rw [hj, List.take_length] at hBl
      simp (disch := omega) only [wrap_id]
      exact ⟨f - 1, by omega, Up.sel [[0], [1, 2]] (by decide) fun _ hle => ⟨_, _, _, rfl, k + 1, rfl, by omega, by
        rw [hst, List.map_append, ← List.append_assoc, List.map_map]
        exact hBl.mono (Mem.le.refl _) (hle [1, 2] (by simp))⟩⟩
  · have hk : k = x.kids.length := by omega
    rw [hk, List.take_length] at hBl
    refine Up.here ?_
    subst hR
    exact ⟨_, _, rfl, by rw [hsm]; exact hBl⟩
end Go.Proofs.Ytniobbepliknmaa.V
/- The text of parlance/parlref5.parts as a statement (slots: 0 t, 1 t, 3 out, 4 _, 5 k); no condition. -/
namespace Go.Proofs.Ytniobbepliknmaa.V
open Go
def S141_1 : Stmt :=
  Stmt.seq
  (Stmt.region [SOper.mk (some 12) none (SOp.ibin BinOp.lss (Operand.tmp 11) (Operand.tmp 10))] [3, 9, 10, 11, 12])
  (Stmt.seq (Stmt.cond (Operand.tmp 12) Stmt.skip (Stmt.exit 0))
    (Stmt.seq
      (Stmt.block 1
        (Stmt.seq
          (Stmt.region
            [SOper.mk (some 13) none (SOp.idx 3 (Operand.tmp 9) (Operand.tmp 11)),
              SOper.mk (some 14) none (SOp.load true 3 (Operand.tmp 13)),
              SOper.mk (some 5) none
                (SOp.alloc true 106
                  (Value.agg (Array.mk [Value.int IntKind.i64 0, Value.int IntKind.i64 0, Value.slice none 0 0]))),
              SOper.mk none none (SOp.store 3 (Operand.tmp 5) (Operand.tmp 14))]
            [3, 5, 9, 10, 11])
          (Stmt.region
            [SOper.mk (some 15) none (SOp.mv (Operand.tmp 3)),
              SOper.mk (some 16) none (SOp.load true 3 (Operand.tmp 5)),
              SOper.mk (some 17) none (SOp.call (Operand.func 141) [Operand.tmp 16]),
              SOper.mk (some 18) none
                (SOp.append 104 106 3 40
                  (Value.agg (Array.mk [Value.int IntKind.i64 0, Value.int IntKind.i64 0, Value.slice none 0 0]))
                  (Operand.tmp 15) (Operand.tmp 17)),
              SOper.mk (some 3) none (SOp.mv (Operand.tmp 18))]
            [3, 9, 10, 11])))
      (Stmt.region
        [SOper.mk (some 19) none (SOp.ibin BinOp.add (Operand.tmp 11) (Operand.const (Value.int IntKind.i64 1))),
          SOper.mk (some 11) none (SOp.mv (Operand.tmp 19))]
        [3, 9, 10, 11])))
def S141_0 : Stmt :=
  Stmt.seq
  (Stmt.region
    [SOper.mk (some 1) none (SOp.box true 106 (Operand.tmp 0)),
      SOper.mk (some 2) none (SOp.mv (Operand.const (Value.slice none 0 0)))]
    [1])
  (Stmt.seq
    (Stmt.region
      [SOper.mk (some 6) none (SOp.load true 3 (Operand.tmp 1)),
        SOper.mk (some 7) none
          (SOp.buildS 106 1 [Value.int IntKind.i64 0, Value.int IntKind.i64 0, Value.slice none 0 0]
            [(0, 3, Operand.tmp 6)]),
        SOper.mk (some 3) none (SOp.mv (Operand.tmp 7))]
      [1, 3])
    (Stmt.seq
      (Stmt.seq
        (Stmt.region
          [SOper.mk (some 8) none (SOp.fld 2 (Operand.tmp 1)),
            SOper.mk (some 9) none (SOp.load false 1 (Operand.tmp 8)),
            SOper.mk (some 10) none (SOp.len false (Operand.tmp 9)),
            SOper.mk (some 11) none (SOp.mv (Operand.const (Value.int IntKind.i64 0)))]
          [3, 9, 10, 11])
        (Stmt.block 0 (Stmt.loop S141_1 [3, 11] [9, 10])))
      (Stmt.seq
        (Stmt.region
          [SOper.mk (some 20) none (SOp.mv (Operand.tmp 3)), SOper.mk (some 2) none (SOp.mv (Operand.tmp 20))] [2])
        Stmt.ret)))
def S141 : FnS := ⟨21, [(2, none)], S141_0⟩
theorem tr141 : trFn Try.prog 141 [1, 5] [[1], [1, 3], [3, 9, 10, 11], [3, 11], [9, 10], [3, 9, 10, 11, 12], [3, 5, 9, 10, 11], [3, 9, 10, 11], [3, 9, 10, 11], [2]] = some S141 := by kernel_rfl
end Go.Proofs.Ytniobbepliknmaa.V
/- All subtrees in preorder: parlref5.parts; no condition. -/
namespace Go.Proofs.Ytniobbepliknmaa.V
open Go
set_option linter.unusedVariables false
set_option linter.unusedSimpArgs false
attribute [local go_sem] e_seq e_region e_quiet e_join e_loop e_cond e_block e_exit e_ret e_skip e_fin e_kseq e_snrm e_sret e_sex e_bnrm e_bret e_bex e_rnrm e_rret e_res e_condC e_nil e_g e_mv g_mv e_pick g_pick pickC_eq e_ibin g_ibin ibinC_eq e_sbin g_sbin e_beq g_beq beqC_eq e_nilq g_nilq nilqC_sl nilqC_pt nilqC_mp e_un g_un unC_not unC_neg e_conv g_conv convC_eq e_fld g_fld fldC_ref fldC_ptr e_nilCheck g_nilCheck nilCheckC_ref nilCheckC_ptr nilCheckC_fun e_field g_field fieldC_eq e_len g_len lenC_sl lenC_str e_extract g_extract extractC_eq e_mkFunc e_build g_build e_idiv g_idiv idivC_eq e_ishift g_ishift ishiftC_eq e_idx g_idx e_idxA g_idxA e_load g_load e_loadB g_loadB atB_ref atB_v g_mkFunc loadC_ref loadC_ptr loadB_eq e_slc g_slc e_box boxC_loc boxC_esc e_alloc allocC_loc allocC_esc e_buildS e_store storeC_ref storeC_ptr storeB_eq e_append e_appz e_mk mkC_eq e_call callC_eq e_fn g_fn fnC_eq fnV_min' fnV_max' fnV_rune' e_q g_q e_a e_n g_call g_box g_alloc g_buildS g_store g_append g_mk g_a g_n g_dead e_dead e_callK e_drawn e_tree e_finJ e_tk e_tfin e_tno e_nbt_q e_nbt_qn e_nbt_a e_nbt_an e_nbt_fin e_drawnB e_bxb_nil e_bxb e_stB_none e_stB_some boxSt_store bs_mv bs_pick bs_ibin bs_idiv bs_ishift bs_sbin bs_beq bs_nilq bs_un bs_conv bs_box bs_alloc bs_build bs_buildS bs_load bs_fld bs_nilCheck bs_idx bs_idxA bs_field bs_slc bs_len bs_append bs_appz bs_mk bs_call bs_extract bs_mkFunc bs_fn bs_q bs_a bs_n bs_loadB bs_dead isBox_box e_early_nil e_early_t e_early_f e_nob_nil e_nob_none e_nob_some isBox_dead isBox_v isBox_ref e_dnil e_dk e_ek e_finB vcOps_vc1 e_dcons e_tq e_ekt e_tearly e_talt e_dearly look_nil look_c proj_nil proj_c looks_nil looks_c zip_nil zip_c val_tmp val_const val_func slv_v slv_box slv_ref slot_tmp slot_const slot_func slotL_v slotL_box slotL_ref put_some put_none updBox_c boxSet_box gd_eq slotVals_nil slotVals_c slotVals_b boxV_box boxOn_box slotsOn_nil slotsOn_c slotsOn_b resV_one resV_two vals_nil vals_c allOn_nil allOn_c partOn_nil partOn_c partVals_nil partVals_c fits_nil fits_c fillL_nil fillL_c mkv_one mkv_agg cellsV_agg cellsV_int cellsV_bool cellsV_slice cellsV_string cellsV_pointer cellsV_func cellsV_nilf cellsV_map one'_nil one'_c oc_int oc_bool oc_slice oc_string oc_pointer oc_func oc_nilf oc_map setC_eq iv_add iv_sub iv_mul iv_eql iv_neq iv_lss iv_leq iv_gtr iv_geq iok_add iok_sub iok_mul iok_eql iok_neq iok_lss iok_leq iok_gtr iok_geq pickV_bool args0_nil args0_c bnd_none bnd_some imp_bt imp_bf imp_ebt imp_ebf imp_eb1 imp_np imp_pp beq_tt beq_tf beq_ft beq_ff cond_or cond_and e_round e_meet Int.le_refl Int.toNat_zero decide_true decide_false Bool.or_false Bool.false_or Bool.true_or Bool.or_true Bool.and_false Bool.false_and Bool.bne_false Bool.bne_true beq_iff_eq Int.cast_ofNat_Int not_false_eq_true not_true_eq_false false_and and_false false_implies true_implies true_and and_true Bool.true_and Bool.and_true Bool.not_true Bool.not_false forall_const implies_true List.take_zero List.drop_zero List.take_succ_cons List.drop_succ_cons List.take_nil List.drop_nil List.length_cons List.length_nil List.nil_append List.append_nil List.cons_append Int.toNat_natCast decide_eq_true_eq decide_eq_false_iff_not cond_true cond_false and_self List.getElem?_cons_zero List.getElem?_cons_succ List.set_cons_zero List.set_cons_succ Option.some.injEq exists_eq_left' Nat.zero_add Nat.add_zero Nat.mul_one imp_self true_or or_true or_false false_or Bool.or_eq_true Bool.or_eq_false_iff Bool.and_eq_true Bool.and_eq_false_iff Bool.not_eq_true' Bool.not_eq_false'

mutual
/-- all subtrees in preorder -/
def partsT : Tr → List Tr
  | ⟨r, t, ks⟩ => ⟨r, t, ks⟩ :: partsL ks
def partsL : List Tr → List Tr
  | [] => []
  | k :: ks => partsT k ++ partsL ks
end
theorem partsT_eq (x : Tr) : partsT x = x :: partsL x.kids := by
  cases x
  simp only [partsT, Tr.kids]
theorem partsL_append (a b : List Tr) : partsL (a ++ b) = partsL a ++ partsL b := by
  induction a with
  | nil => rfl
  | cons k a ih => simp only [List.cons_append, partsL, ih, List.append_assoc]
theorem partsL_len {ks : List Tr} (h : ∀ k ∈ ks, (partsT k).length = numT k) : (partsL ks).length = numL ks := by
  induction ks with
  | nil => simp [partsL, numL]
  | cons k ks ih =>
    simp only [partsL, numL, List.length_append, h k (by simp), ih fun x hx => h x (by simp [hx])]
theorem partsT_len (x : Tr) : (partsT x).length = numT x := by
  refine Tr.ind (p := fun x => (partsT x).length = numT x) (fun x ih => ?_) x
  rw [partsT_eq, numT_eq, List.length_cons, partsL_len ih]
  omega
/-- a list of trees: its row is its own; what they lead to lies there too -/
def OwnR (Γr : Ctx) (xs : List Tr) (v : Value) (Γ : Ctx) : Prop := ∃ go gl, Γ = [go, gl] ∧ Bld go (lk (gl :: Γr)) 106 v xs
theorem lit_tree {b : Nat} {L : Mem} {x : Tr} {cs : List Value} (hx : Rep.ok L x cs) : Bld (one b (.cells cs.toArray 106)) L 106 (.slice (some ⟨b, 0, none⟩) 1 1) [x] := by
  have hl := Rep.len hx
  refine ⟨cs, ⟨by rw [hl]; simp, .inr ⟨b, 0, 0, _, rfl, by simp, by simp [maxLen], one_self _ _, by simp [hl], ?_⟩⟩, fun i y hi => ?_⟩
  · simp only [List.toList_toArray, List.drop_zero, List.length_cons, List.length_nil, Nat.zero_add, Nat.one_mul]
    rw [← hl, List.take_length]
  · cases i with
    | zero => simp at hi; subst hi; exact ⟨cs, hx, fun j hj => by simp⟩
    | succ i => simp at hi
theorem lk_ctx {Γ Γr : Ctx} {e : PH} (h : Mem.le (lk Γ) (lk [e])) : Mem.le (lk (Γ ++ Γr)) (lk (e :: Γr)) := by
  rintro k o ⟨g, hg, hk⟩
  rcases List.mem_append.1 hg with hg | hg
  · obtain ⟨z, hz, hzk⟩ := h k o ⟨g, hg, hk⟩
    exact ⟨z, by simp at hz; simp [hz], hzk⟩
  · exact ⟨g, by simp [hg], hk⟩
theorem ref_parts {Γr : Ctx} (x : Tr) : ∀ {A : Option Addr} {c : Nat}, SlOk (lk Γr) A c x.kids → numT x ≤ 1048576 →
    Ret Try.prog 141 [.agg #[.int .i64 x.rule, .int .i64 x.term, .slice A x.kids.length c]] Γr [] (OwnR Γr (partsT x)) := by
  refine Tr.ind (p := fun x => ∀ {A : Option Addr} {c : Nat}, SlOk (lk Γr) A c x.kids → numT x ≤ 1048576 → Ret Try.prog 141 [.agg #[.int .i64 x.rule, .int .i64 x.term, .slice A x.kids.length c]] Γr [] (OwnR Γr (partsT x))) (fun x ih A c hx hn => ?_) x
  generalize hR : OwnR Γr (partsT x) = R
  refine ret_of_vc tr141 (Nat.le_of_ble_eq_true rfl) ?_
  have hn1 := numT_eq x
  have hlen := numL_len x.kids
  simp -implicitDefEqProofs only [S141, S141_0, go_sem, Nat.reduceBEq, Nat.reduceAdd, Nat.reduceSub, Nat.reduceMul, Nat.reduceLeDiff, reduceCtorEq, ↓reduceIte, Int.reduceLT, Int.reduceLE, Int.reduceEq, Int.reduceNe]
  intro b1
  refine s_loop (fun f vs Γ => ∃ go gl v, Γ = [go, gl] ∧ ∃ k : Nat, vs = [.v true v, .v true (.int .i64 k)] ∧ k + f = x.kids.length ∧ Bld go (lk (gl :: Γr)) 106 v (x :: partsL (x.kids.take k))) x.kids.length
    (Up.to [_, emp] ⟨fun h hh k o hk => (by
      simp at hh
      rcases hh with rfl | rfl
      · exact ⟨_, by simp, hk⟩
      · cases hk), fun _ => by simp [Disj, emp]⟩ ⟨_, _, _, rfl, 0, rfl, by omega, lit_tree (ok_tr.2 ⟨A, c, rfl, hx.mono (lk_sub fun y hy => by simp [hy])⟩)⟩) ?_
  rintro f vs Γ ⟨go, gl, v, rfl, k, rfl, hkf, hB⟩
  simp -implicitDefEqProofs only [S141_1, go_sem, Nat.reduceBEq, Nat.reduceAdd, Nat.reduceSub, Nat.reduceMul, Nat.reduceLeDiff, reduceCtorEq, ↓reduceIte, Int.reduceLT, Int.reduceLE, Int.reduceEq, Int.reduceNe]
  refine ⟨fun hlt => ?_, fun hge => ?_⟩
  · have hk : k < x.kids.length := by omega
    have hm := List.getElem_mem hk
    have hnk := numL_mem hm
    obtain ⟨b5, o5, hA5, A6, c6, hs6, hc6⟩ := hx.tr hk
    have hst : partsL (x.kids.take (k + 1)) = partsL (x.kids.take k) ++ partsT x.kids[k] := by
      rw [List.take_succ_eq_append_getElem hk, partsL_append]
      simp [partsL]
    have hl1 : (partsL (x.kids.take k)).length = numL (x.kids.take k) := partsL_len fun y _ => partsT_len y
    have hl2 : (partsT x.kids[k]).length = numT x.kids[k] := partsT_len _
    have hl3 := numL_append (x.kids.take k) (x.kids.drop k)
    rw [List.take_append_drop] at hl3
    refine s_idx hA5 (by omega) (by omega) ?_
    simp -implicitDefEqProofs only [go_sem, Nat.reduceBEq, Nat.reduceAdd, Nat.reduceSub, Nat.reduceMul, Nat.reduceLeDiff, reduceCtorEq, ↓reduceIte, Int.reduceLT, Int.reduceLE, Int.reduceEq, Int.reduceNe]
    refine s_ld0 (hc6 _ (lk_r _ _)) (by simp) (by simp) ?_
    simp -implicitDefEqProofs only [go_sem, Nat.reduceBEq, Nat.reduceAdd, Nat.reduceSub, Nat.reduceMul, Nat.reduceLeDiff, reduceCtorEq, ↓reduceIte, Int.reduceLT, Int.reduceLE, Int.reduceEq, Int.reduceNe]
    intro b7
    refine CallVC.pure (ih _ hm hs6 (by omega)) (List.sublist_append_right [go, gl] Γr) ?_
    rintro v2 Γ2 ⟨go2, gl2, rfl, hB2⟩
    obtain ⟨A7, c7, rfl, hs7⟩ := hB2.slok (L' := lk (go2 :: gl2 :: Γr)) (lk_sub (by simp)) (lk_sub fun y hy => by simp at hy ⊢; rcases hy with h | h <;> simp [h]) (by omega)
    simp -implicitDefEqProofs only [go_sem, Nat.reduceBEq, Nat.reduceAdd, Nat.reduceSub, Nat.reduceMul, Nat.reduceLeDiff, reduceCtorEq, ↓reduceIte, Int.reduceLT, Int.reduceLE, Int.reduceEq, Int.reduceNe]
    refine s_appL (α := Tr) (ix := 2) (L := lk (gl :: Γr)) (L' := lk (go2 :: gl2 :: gl :: Γr)) (L2 := lk (go2 :: gl2 :: Γr)) rfl hB (lk_sub fun y hy => by simp at hy ⊢; rcases hy with h | h <;> simp [h]) hs7 (lk_sub fun y hy => by simp at hy ⊢; rcases hy with h | h | h <;> simp [h]) (lk_sub fun y hy => by simp at hy ⊢; rcases hy with h | h | h <;> simp [h]) rfl (by rw [List.length_cons]; omega) (by rw [List.length_cons]; unfold maxLen; omega) ?_
    intro v' g' hB' _
    simp -implicitDefEqProofs only [go_sem, Nat.reduceBEq, Nat.reduceAdd, Nat.reduceSub, Nat.reduceMul, Nat.reduceLeDiff, reduceCtorEq, ↓reduceIte, Int.reduceLT, Int.reduceLE, Int.reduceEq, Int.reduceNe]
    simp (disch := omega) only [wrap_id]
    exact ⟨f - 1, by omega, Up.sel [[2], [0, 1, 3]] (by decide) fun _ hle => ⟨_, _, _, rfl, k + 1, rfl, by omega, by
      rw [hst, ← List.cons_append]
      exact hB'.mono (Mem.le.refl _) (lk_ctx (hle [0, 1, 3] (by simp)))⟩⟩
  · have hk : k = x.kids.length := by omega
    rw [hk, List.take_length] at hB
    refine Up.here ?_
    subst hR
    exact ⟨_, _, rfl, by rw [partsT_eq]; exact hB⟩
end Go.Proofs.Ytniobbepliknmaa.V
/- The text of parlance/parlref5.changed as a statement (slots: 0 t, 1 n, 2 by, 3 t, 4 n, 5 by, 8 out, 9 _, 10 k); no condition. -/
namespace Go.Proofs.Ytniobbepliknmaa.V
open Go
def S142_1 : Stmt :=
  Stmt.seq
  (Stmt.region
    [SOper.mk (some 28) none (SOp.mv (Operand.tmp 1)),
      SOper.mk (some 29) none (SOp.ibin BinOp.geq (Operand.tmp 28) (Operand.const (Value.int IntKind.i64 0)))]
    [1, 5, 6, 8, 10, 22, 23, 24, 29])
  (Stmt.cond (Operand.tmp 29)
    (Stmt.region
      [SOper.mk (some 31) none (SOp.load true 3 (Operand.tmp 10)), SOper.mk (some 32) none (SOp.mv (Operand.tmp 1)),
        SOper.mk (some 33) none (SOp.load true 3 (Operand.tmp 5)),
        SOper.mk (some 34) none (SOp.call (Operand.func 142) [Operand.tmp 31, Operand.tmp 32, Operand.tmp 33]),
        SOper.mk (some 30) none (SOp.mv (Operand.tmp 34)), SOper.mk (some 35) none (SOp.extract 0 (Operand.tmp 30)),
        SOper.mk (some 36) none (SOp.extract 1 (Operand.tmp 30)),
        SOper.mk none none (SOp.store 3 (Operand.tmp 10) (Operand.tmp 35)),
        SOper.mk (some 1) none (SOp.mv (Operand.tmp 36))]
      [1, 5, 6, 8, 10, 22, 23, 24])
    Stmt.skip)
def S142_2 : Stmt :=
  Stmt.region
  [SOper.mk (some 37) none (SOp.fld 2 (Operand.tmp 8)), SOper.mk (some 38) none (SOp.load false 1 (Operand.tmp 37)),
    SOper.mk (some 39) none (SOp.load true 3 (Operand.tmp 10)),
    SOper.mk (some 40) none
      (SOp.buildS 106 1 [Value.int IntKind.i64 0, Value.int IntKind.i64 0, Value.slice none 0 0]
        [(0, 3, Operand.tmp 39)]),
    SOper.mk (some 41) none
      (SOp.append 104 106 3 40
        (Value.agg (Array.mk [Value.int IntKind.i64 0, Value.int IntKind.i64 0, Value.slice none 0 0])) (Operand.tmp 38)
        (Operand.tmp 40)),
    SOper.mk (some 42) none (SOp.fld 2 (Operand.tmp 8)),
    SOper.mk none none (SOp.store 1 (Operand.tmp 42) (Operand.tmp 41))]
  [1, 5, 6, 8, 22, 23, 24]
def S142_3 : Stmt :=
  Stmt.block 1
  (Stmt.seq
    (Stmt.region
      [SOper.mk (some 26) none (SOp.idx 3 (Operand.tmp 22) (Operand.tmp 24)),
        SOper.mk (some 27) none (SOp.load true 3 (Operand.tmp 26)),
        SOper.mk (some 10) none
          (SOp.alloc true 106
            (Value.agg (Array.mk [Value.int IntKind.i64 0, Value.int IntKind.i64 0, Value.slice none 0 0]))),
        SOper.mk none none (SOp.store 3 (Operand.tmp 10) (Operand.tmp 27))]
      [1, 5, 6, 8, 10, 22, 23, 24])
    (Stmt.join S142_1 S142_2 [1, 10] [5, 6, 8, 22, 23, 24]))
def S142_4 : Stmt :=
  Stmt.region
  [SOper.mk (some 43) none (SOp.ibin BinOp.add (Operand.tmp 24) (Operand.const (Value.int IntKind.i64 1))),
    SOper.mk (some 24) none (SOp.mv (Operand.tmp 43))]
  [1, 5, 6, 8, 22, 23, 24]
def S142_5 : Stmt :=
  Stmt.seq
  (Stmt.region [SOper.mk (some 25) none (SOp.ibin BinOp.lss (Operand.tmp 24) (Operand.tmp 23))]
    [1, 5, 6, 8, 22, 23, 24, 25])
  (Stmt.seq (Stmt.cond (Operand.tmp 25) Stmt.skip (Stmt.exit 0)) (Stmt.join S142_3 S142_4 [1, 8] [5, 6, 22, 23, 24]))
def S142_0 : Stmt :=
  Stmt.seq
  (Stmt.region
    [SOper.mk (some 3) none (SOp.box true 106 (Operand.tmp 0)),
      SOper.mk (some 5) none (SOp.box true 106 (Operand.tmp 2)),
      SOper.mk (some 6) none
        (SOp.alloc true 106
          (Value.agg (Array.mk [Value.int IntKind.i64 0, Value.int IntKind.i64 0, Value.slice none 0 0]))),
      SOper.mk (some 7) none (SOp.mv (Operand.const (Value.int IntKind.i64 0)))]
    [1, 3, 5, 6])
  (Stmt.seq
    (Stmt.seq
      (Stmt.region
        [SOper.mk (some 11) none (SOp.mv (Operand.tmp 1)),
          SOper.mk (some 12) none (SOp.ibin BinOp.eql (Operand.tmp 11) (Operand.const (Value.int IntKind.i64 0)))]
        [1, 3, 5, 6, 12])
      (Stmt.cond (Operand.tmp 12)
        (Stmt.seq
          (Stmt.region
            [SOper.mk (some 13) none (SOp.load true 3 (Operand.tmp 5)),
              SOper.mk none none (SOp.store 3 (Operand.tmp 6) (Operand.tmp 13)),
              SOper.mk (some 7) none (SOp.mv (Operand.const (Value.int IntKind.i64 (-1))))]
            [6, 7])
          Stmt.ret)
        Stmt.skip))
    (Stmt.seq
      (Stmt.region
        [SOper.mk (some 14) none (SOp.mv (Operand.tmp 1)),
          SOper.mk (some 15) none (SOp.ibin BinOp.sub (Operand.tmp 14) (Operand.const (Value.int IntKind.i64 1))),
          SOper.mk (some 1) none (SOp.mv (Operand.tmp 15))]
        [1, 3, 5, 6])
      (Stmt.seq
        (Stmt.region
          [SOper.mk (some 16) none (SOp.fld 0 (Operand.tmp 3)),
            SOper.mk (some 17) none (SOp.load false 1 (Operand.tmp 16)),
            SOper.mk (some 18) none (SOp.fld 1 (Operand.tmp 3)),
            SOper.mk (some 19) none (SOp.load false 1 (Operand.tmp 18)),
            SOper.mk (some 20) none
              (SOp.build 106 [Value.int IntKind.i64 0, Value.int IntKind.i64 0, Value.slice none 0 0]
                [(0, 1, Operand.tmp 17), (1, 1, Operand.tmp 19)]),
            SOper.mk (some 8) none
              (SOp.alloc true 106
                (Value.agg (Array.mk [Value.int IntKind.i64 0, Value.int IntKind.i64 0, Value.slice none 0 0]))),
            SOper.mk none none (SOp.store 3 (Operand.tmp 8) (Operand.tmp 20))]
          [1, 3, 5, 6, 8])
        (Stmt.seq
          (Stmt.seq
            (Stmt.region
              [SOper.mk (some 21) none (SOp.fld 2 (Operand.tmp 3)),
                SOper.mk (some 22) none (SOp.load false 1 (Operand.tmp 21)),
                SOper.mk (some 23) none (SOp.len false (Operand.tmp 22)),
                SOper.mk (some 24) none (SOp.mv (Operand.const (Value.int IntKind.i64 0)))]
              [1, 5, 6, 8, 22, 23, 24])
            (Stmt.block 0 (Stmt.loop S142_5 [1, 8, 24] [5, 6, 22, 23])))
          (Stmt.seq
            (Stmt.region
              [SOper.mk (some 44) none (SOp.load true 3 (Operand.tmp 8)),
                SOper.mk (some 45) none (SOp.mv (Operand.tmp 1)),
                SOper.mk none none (SOp.store 3 (Operand.tmp 6) (Operand.tmp 44)),
                SOper.mk (some 7) none (SOp.mv (Operand.tmp 45))]
              [6, 7])
            Stmt.ret)))))
def S142 : FnS := ⟨46, [(6, some (true, 3)), (7, none)], S142_0⟩
theorem tr142 : trFn Try.prog 142 [3, 5, 6, 8, 10] [[1, 3, 5, 6], [1, 3, 5, 6, 12], [6, 7], [1, 3, 5, 6], [1, 3, 5, 6, 8], [1, 5, 6, 8, 22, 23, 24], [1, 8, 24], [5, 6, 22, 23], [1, 5, 6, 8, 22, 23, 24, 25], [1, 8], [5, 6, 22, 23, 24], [1, 5, 6, 8, 10, 22, 23, 24], [1, 10], [5, 6, 8, 22, 23, 24], [1, 5, 6, 8, 10, 22, 23, 24, 29], [1, 5, 6, 8, 10, 22, 23, 24], [1, 5, 6, 8, 22, 23, 24], [1, 5, 6, 8, 22, 23, 24], [6, 7]] = some S142 := by kernel_rfl
end Go.Proofs.Ytniobbepliknmaa.V
/- A subtree is replaced: parlref5.changed; no condition. -/
namespace Go.Proofs.Ytniobbepliknmaa.V
open Go
set_option linter.unusedVariables false
set_option linter.unusedSimpArgs false
attribute [local go_sem] e_seq e_region e_quiet e_join e_loop e_cond e_block e_exit e_ret e_skip e_fin e_kseq e_snrm e_sret e_sex e_bnrm e_bret e_bex e_rnrm e_rret e_res e_condC e_nil e_g e_mv g_mv e_pick g_pick pickC_eq e_ibin g_ibin ibinC_eq e_sbin g_sbin e_beq g_beq beqC_eq e_nilq g_nilq nilqC_sl nilqC_pt nilqC_mp e_un g_un unC_not unC_neg e_conv g_conv convC_eq e_fld g_fld fldC_ref fldC_ptr e_nilCheck g_nilCheck nilCheckC_ref nilCheckC_ptr nilCheckC_fun e_field g_field fieldC_eq e_len g_len lenC_sl lenC_str e_extract g_extract extractC_eq e_mkFunc e_build g_build e_idiv g_idiv idivC_eq e_ishift g_ishift ishiftC_eq e_idx g_idx e_idxA g_idxA e_load g_load e_loadB g_loadB atB_ref atB_v g_mkFunc loadC_ref loadC_ptr loadB_eq e_slc g_slc e_box boxC_loc boxC_esc e_alloc allocC_loc allocC_esc e_buildS e_store storeC_ref storeC_ptr storeB_eq e_append e_appz e_mk mkC_eq e_call callC_eq e_fn g_fn fnC_eq fnV_min' fnV_max' fnV_rune' e_q g_q e_a e_n g_call g_box g_alloc g_buildS g_store g_append g_mk g_a g_n g_dead e_dead e_callK e_drawn e_tree e_finJ e_tk e_tfin e_tno e_nbt_q e_nbt_qn e_nbt_a e_nbt_an e_nbt_fin e_drawnB e_bxb_nil e_bxb e_stB_none e_stB_some boxSt_store bs_mv bs_pick bs_ibin bs_idiv bs_ishift bs_sbin bs_beq bs_nilq bs_un bs_conv bs_box bs_alloc bs_build bs_buildS bs_load bs_fld bs_nilCheck bs_idx bs_idxA bs_field bs_slc bs_len bs_append bs_appz bs_mk bs_call bs_extract bs_mkFunc bs_fn bs_q bs_a bs_n bs_loadB bs_dead isBox_box e_early_nil e_early_t e_early_f e_nob_nil e_nob_none e_nob_some isBox_dead isBox_v isBox_ref e_dnil e_dk e_ek e_finB vcOps_vc1 e_dcons e_tq e_ekt e_tearly e_talt e_dearly look_nil look_c proj_nil proj_c looks_nil looks_c zip_nil zip_c val_tmp val_const val_func slv_v slv_box slv_ref slot_tmp slot_const slot_func slotL_v slotL_box slotL_ref put_some put_none updBox_c boxSet_box gd_eq slotVals_nil slotVals_c slotVals_b boxV_box boxOn_box slotsOn_nil slotsOn_c slotsOn_b resV_one resV_two vals_nil vals_c allOn_nil allOn_c partOn_nil partOn_c partVals_nil partVals_c fits_nil fits_c fillL_nil fillL_c mkv_one mkv_agg cellsV_agg cellsV_int cellsV_bool cellsV_slice cellsV_string cellsV_pointer cellsV_func cellsV_nilf cellsV_map one'_nil one'_c oc_int oc_bool oc_slice oc_string oc_pointer oc_func oc_nilf oc_map setC_eq iv_add iv_sub iv_mul iv_eql iv_neq iv_lss iv_leq iv_gtr iv_geq iok_add iok_sub iok_mul iok_eql iok_neq iok_lss iok_leq iok_gtr iok_geq pickV_bool args0_nil args0_c bnd_none bnd_some imp_bt imp_bf imp_ebt imp_ebf imp_eb1 imp_np imp_pp beq_tt beq_tf beq_ft beq_ff cond_or cond_and e_round e_meet Int.le_refl Int.toNat_zero decide_true decide_false Bool.or_false Bool.false_or Bool.true_or Bool.or_true Bool.and_false Bool.false_and Bool.bne_false Bool.bne_true beq_iff_eq Int.cast_ofNat_Int not_false_eq_true not_true_eq_false false_and and_false false_implies true_implies true_and and_true Bool.true_and Bool.and_true Bool.not_true Bool.not_false forall_const implies_true List.take_zero List.drop_zero List.take_succ_cons List.drop_succ_cons List.take_nil List.drop_nil List.length_cons List.length_nil List.nil_append List.append_nil List.cons_append Int.toNat_natCast decide_eq_true_eq decide_eq_false_iff_not cond_true cond_false and_self List.getElem?_cons_zero List.getElem?_cons_succ List.set_cons_zero List.set_cons_succ Option.some.injEq exists_eq_left' Nat.zero_add Nat.add_zero Nat.mul_one imp_self true_or or_true or_false false_or Bool.or_eq_true Bool.or_eq_false_iff Bool.and_eq_true Bool.and_eq_false_iff Bool.not_eq_true' Bool.not_eq_false'

mutual
/-- the subtree with number n is replaced -/
def chT (z : Tr) : Tr → Int → Tr × Int
  | ⟨r, t, ks⟩, n => if n = 0 then (z, -1) else (⟨r, t, (chL z ks (n - 1)).1⟩, (chL z ks (n - 1)).2)
def chL (z : Tr) : List Tr → Int → List Tr × Int
  | [], n => ([], n)
  | k :: ks, n => if 0 ≤ n then ((chT z k n).1 :: (chL z ks (chT z k n).2).1, (chL z ks (chT z k n).2).2) else (k :: (chL z ks n).1, (chL z ks n).2)
end
theorem chT_eq (z x : Tr) (n : Int) : chT z x n = if n = 0 then (z, -1) else (⟨x.rule, x.term, (chL z x.kids (n - 1)).1⟩, (chL z x.kids (n - 1)).2) := by
  cases x
  simp only [chT, Tr.rule, Tr.kids, Tr.term]
def chK (z k : Tr) (n : Int) : Tr × Int := if 0 ≤ n then chT z k n else (k, n)
theorem chL_cons (z k : Tr) (ks : List Tr) (n : Int) : chL z (k :: ks) n = ((chK z k n).1 :: (chL z ks (chK z k n).2).1, (chL z ks (chK z k n).2).2) := by
  unfold chK
  rw [chL]
  split <;> rename_i h <;> simp [h]
theorem chL_snoc (z k : Tr) (a : List Tr) (n : Int) : chL z (a ++ [k]) n = ((chL z a n).1 ++ [(chK z k (chL z a n).2).1], (chK z k (chL z a n).2).2) := by
  induction a generalizing n with
  | nil => simp [chL_cons, chL]
  | cons y a ih => rw [List.cons_append, chL_cons, ih, chL_cons]; simp
theorem chL_len (z : Tr) (ks : List Tr) (n : Int) : (chL z ks n).1.length = ks.length := by
  induction ks generalizing n with
  | nil => simp [chL]
  | cons k ks ih => rw [chL_cons]; simp [ih]
theorem chL_rng {z : Tr} {ks : List Tr} (h : ∀ k ∈ ks, ∀ n, 0 ≤ n → -1 ≤ (chT z k n).2 ∧ (chT z k n).2 ≤ n) : ∀ n, -1 ≤ n → -1 ≤ (chL z ks n).2 ∧ (chL z ks n).2 ≤ n := by
  induction ks with
  | nil => intro n hn; simp [chL]; omega
  | cons k ks ih =>
    intro n hn
    rw [chL_cons]
    have h1 : -1 ≤ (chK z k n).2 ∧ (chK z k n).2 ≤ n := by
      unfold chK
      split
      · exact h k (by simp) n (by assumption)
      · exact ⟨hn, Int.le_refl _⟩
    have h2 := ih (fun x hx => h x (by simp [hx])) _ h1.1
    exact ⟨h2.1, Int.le_trans h2.2 h1.2⟩
theorem chT_rng (z x : Tr) : ∀ n, 0 ≤ n → -1 ≤ (chT z x n).2 ∧ (chT z x n).2 ≤ n := by
  refine Tr.ind (p := fun x => ∀ n, 0 ≤ n → -1 ≤ (chT z x n).2 ∧ (chT z x n).2 ≤ n) (fun x ih => ?_) x
  intro n hn
  rw [chT_eq]
  split
  · exact ⟨Int.le_refl _, by simp; omega⟩
  · have := chL_rng ih (n - 1) (by omega)
    exact ⟨this.1, by simp only; omega⟩
theorem lk_ctx2 {go gl gg : PH} {Γr : Ctx} (h : Mem.le (lk [go, gl]) (lk [gg])) : Mem.le (lk (gl :: Γr)) (lk (gg :: Γr)) := (lk_sub fun y hy => by simp at hy ⊢; rcases hy with h | h <;> simp [h]).trans (lk_ctx (Γr := Γr) h)
theorem ref_changed {Γr : Ctx} {z : Tr} {D : Option Addr} {e : Nat} (hz : SlOk (lk Γr) D e z.kids) (x : Tr) : ∀ {A : Option Addr} {c : Nat} (n : Int), SlOk (lk Γr) A c x.kids → numT x ≤ 1048576 → 0 ≤ n → n ≤ 1048576 →
    Ret Try.prog 142 [.agg #[.int .i64 x.rule, .int .i64 x.term, .slice A x.kids.length c], .int .i64 n, .agg #[.int .i64 z.rule, .int .i64 z.term, .slice D z.kids.length e]] Γr []
      (fun v Γ => ∃ gg A' c', Γ = [gg] ∧ v = .tuple #[.agg #[.int .i64 (chT z x n).1.rule, .int .i64 (chT z x n).1.term, .slice A' (chT z x n).1.kids.length c'], .int .i64 (chT z x n).2] ∧ SlOk (lk (gg :: Γr)) A' c' (chT z x n).1.kids) := by
  refine Tr.ind (p := fun x => ∀ {A : Option Addr} {c : Nat} (n : Int), SlOk (lk Γr) A c x.kids → numT x ≤ 1048576 → 0 ≤ n → n ≤ 1048576 →
    Ret Try.prog 142 [.agg #[.int .i64 x.rule, .int .i64 x.term, .slice A x.kids.length c], .int .i64 n, .agg #[.int .i64 z.rule, .int .i64 z.term, .slice D z.kids.length e]] Γr []
      (fun v Γ => ∃ gg A' c', Γ = [gg] ∧ v = .tuple #[.agg #[.int .i64 (chT z x n).1.rule, .int .i64 (chT z x n).1.term, .slice A' (chT z x n).1.kids.length c'], .int .i64 (chT z x n).2] ∧ SlOk (lk (gg :: Γr)) A' c' (chT z x n).1.kids)) (fun x ih A c n hx hn hn0 hnm => ?_) x
  generalize hR : (fun (v : Value) (Γ : Ctx) => ∃ gg A' c', _) = R
  refine ret_of_vc tr142 (Nat.le_of_ble_eq_true rfl) ?_
  have hn1 := numT_eq x
  have hlen := numL_len x.kids
  simp -implicitDefEqProofs only [S142, S142_0, go_sem, Nat.reduceBEq, Nat.reduceAdd, Nat.reduceSub, Nat.reduceMul, Nat.reduceLeDiff, reduceCtorEq, ↓reduceIte, Int.reduceLT, Int.reduceLE, Int.reduceEq, Int.reduceNe]
  intro b1 b2
  refine ⟨fun h => Up.to [emp] ⟨(fun h hh k o hk => (by simp at hh; subst hh; cases hk)), fun _ => by simp⟩ ?_, fun h => ?_⟩
  · subst hR
    have e1 : chT z x n = (z, -1) := by rw [chT_eq, if_pos h]
    rw [e1]
    exact ⟨emp, D, e, rfl, rfl, hz.mono (lk_sub fun y hy => by simp [hy])⟩
  have e1 : chT z x n = (⟨x.rule, x.term, (chL z x.kids (n - 1)).1⟩, (chL z x.kids (n - 1)).2) := by rw [chT_eq, if_neg h]
  simp (disch := omega) only [wrap_id]
  intro b4
  refine s_loop (fun f vs Γ => ∃ go gl w, Γ = [go, gl] ∧ ∃ k : Nat, vs = [.v true (.int .i64 (chL z (x.kids.take k) (n - 1)).2), .box b4 106 [.int .i64 x.rule, .int .i64 x.term, w], .v true (.int .i64 k)] ∧ k + f = x.kids.length ∧ Bld go (lk (gl :: Γr)) 106 w (chL z (x.kids.take k) (n - 1)).1) x.kids.length
    (Up.to _ (ent_emp2 _) ⟨_, _, .slice none 0 0, rfl, 0, by rw [List.take_zero, chL]; rfl, by omega, by rw [List.take_zero, chL]; exact Bld.nil _ _ _⟩) ?_
  rintro f vs Γ ⟨go, gl, w, rfl, k, rfl, hkf, hB⟩
  simp -implicitDefEqProofs only [S142_5, go_sem, Nat.reduceBEq, Nat.reduceAdd, Nat.reduceSub, Nat.reduceMul, Nat.reduceLeDiff, reduceCtorEq, ↓reduceIte, Int.reduceLT, Int.reduceLE, Int.reduceEq, Int.reduceNe]
  refine ⟨fun hlt => ?_, fun hge => ?_⟩
  · have hk : k < x.kids.length := by omega
    have hm := List.getElem_mem hk
    have hnk := numL_mem hm
    obtain ⟨b5, o5, hA5, A6, c6, hs6, hc6⟩ := hx.tr hk
    have hst : chL z (x.kids.take (k + 1)) (n - 1) = ((chL z (x.kids.take k) (n - 1)).1 ++ [(chK z x.kids[k] (chL z (x.kids.take k) (n - 1)).2).1], (chK z x.kids[k] (chL z (x.kids.take k) (n - 1)).2).2) := by
      rw [List.take_succ_eq_append_getElem hk, chL_snoc]
    have hcl := chL_len z (x.kids.take k) (n - 1)
    have hrg := chL_rng (z := z) (ks := x.kids.take k) (fun y _ => chT_rng z y) (n - 1) (by omega)
    rw [List.length_take] at hcl
    generalize (chL z (x.kids.take k) (n - 1)) = q at *
    obtain ⟨pre, m⟩ := q
    simp only at hst hB hcl hrg ⊢
    refine s_join (fun vs Γ => ∃ go gl w, Γ = [go, gl] ∧ vs = [.v true (.int .i64 (chK z x.kids[k] m).2), .box b4 106 [.int .i64 x.rule, .int .i64 x.term, w]] ∧ Bld go (lk (gl :: Γr)) 106 w (pre ++ [(chK z x.kids[k] m).1])) ?_ ?_
    · simp -implicitDefEqProofs only [S142_3, go_sem, Nat.reduceBEq, Nat.reduceAdd, Nat.reduceSub, Nat.reduceMul, Nat.reduceLeDiff, reduceCtorEq, ↓reduceIte, Int.reduceLT, Int.reduceLE, Int.reduceEq, Int.reduceNe]
      refine s_idx hA5 (by omega) (by omega) ?_
      simp -implicitDefEqProofs only [go_sem, Nat.reduceBEq, Nat.reduceAdd, Nat.reduceSub, Nat.reduceMul, Nat.reduceLeDiff, reduceCtorEq, ↓reduceIte, Int.reduceLT, Int.reduceLE, Int.reduceEq, Int.reduceNe]
      refine s_ld0 (hc6 _ (lk_r _ _)) (by simp) (by simp) ?_
      simp -implicitDefEqProofs only [go_sem, Nat.reduceBEq, Nat.reduceAdd, Nat.reduceSub, Nat.reduceMul, Nat.reduceLeDiff, reduceCtorEq, ↓reduceIte, Int.reduceLT, Int.reduceLE, Int.reduceEq, Int.reduceNe]
      intro b6
      refine s_join (fun vs Γ => ∃ go gl A' c', Γ = [go, gl] ∧ vs = [.v true (.int .i64 (chK z x.kids[k] m).2), .box b6 106 [.int .i64 (chK z x.kids[k] m).1.rule, .int .i64 (chK z x.kids[k] m).1.term, .slice A' (chK z x.kids[k] m).1.kids.length c']] ∧ SlOk (lk (gl :: Γr)) A' c' (chK z x.kids[k] m).1.kids ∧ Bld go (lk (gl :: Γr)) 106 w pre) ?_ ?_
      · simp -implicitDefEqProofs only [S142_1, go_sem, Nat.reduceBEq, Nat.reduceAdd, Nat.reduceSub, Nat.reduceMul, Nat.reduceLeDiff, reduceCtorEq, ↓reduceIte, Int.reduceLT, Int.reduceLE, Int.reduceEq, Int.reduceNe]
        refine ⟨fun h0 => ?_, fun h0 => Up.here ?_⟩
        · have e2 : chK z x.kids[k] m = chT z x.kids[k] m := by unfold chK; rw [if_pos h0]
          rw [e2]
          refine CallVC.pure (ih _ hm m hs6 (by omega) h0 (by omega)) (List.sublist_append_right [go, gl] Γr) ?_
          rintro v Γ2 ⟨gg, A', c', rfl, rfl, hs'⟩
          simp -implicitDefEqProofs only [go_sem, Nat.reduceBEq, Nat.reduceAdd, Nat.reduceSub, Nat.reduceMul, Nat.reduceLeDiff, reduceCtorEq, ↓reduceIte, Int.reduceLT, Int.reduceLE, Int.reduceEq, Int.reduceNe]
          exact Up.sel [[1], [0, 2]] (by decide) fun _ hle => ⟨_, _, A', c', rfl, rfl, hs'.mono ((lk_sub (Γ' := [gg, gl] ++ Γr) fun y hy => by simp at hy ⊢; rcases hy with h | h <;> simp [h]).trans (lk_ctx (hle [0, 2] (by simp)))), hB.mono (Mem.le.refl _) ((lk_sub (Γ' := [gg, gl] ++ Γr) fun y hy => by simp at hy ⊢; rcases hy with h | h <;> simp [h]).trans (lk_ctx (hle [0, 2] (by simp))))⟩
        · have e2 : chK z x.kids[k] m = (x.kids[k], m) := by unfold chK; rw [if_neg h0]
          rw [e2]
          exact ⟨go, gl, A6, c6, rfl, rfl, hs6.mono (lk_sub fun y hy => by simp [hy]), hB⟩
      · rintro vs Γ ⟨go, gl, A', c', rfl, rfl, hs', hB⟩
        generalize chK z x.kids[k] m = q at *
        obtain ⟨y, m'⟩ := q
        simp only at hs' hst ⊢
        simp -implicitDefEqProofs only [S142_2, go_sem, Nat.reduceBEq, Nat.reduceAdd, Nat.reduceSub, Nat.reduceMul, Nat.reduceLeDiff, reduceCtorEq, ↓reduceIte, Int.reduceLT, Int.reduceLE, Int.reduceEq, Int.reduceNe]
        intro b7
        refine s_app1 (α := Tr) (ix := 1) (L := lk (gl :: Γr)) (L' := lk (gl :: Γr)) rfl hB (Mem.le.refl _) (ok_tr.2 ⟨A', c', rfl, hs'⟩) (cells_lk lk_head) rfl (by omega) (by unfold maxLen; omega) ?_
        intro v' g' hB' _
        obtain ⟨A10, c10, rfl⟩ := hB'.val
        simp -implicitDefEqProofs only [go_sem, Nat.reduceBEq, Nat.reduceAdd, Nat.reduceSub, Nat.reduceMul, Nat.reduceLeDiff, reduceCtorEq, ↓reduceIte, Int.reduceLT, Int.reduceLE, Int.reduceEq, Int.reduceNe]
        exact Up.sel [[1], [2]] (by decide) fun _ _ => ⟨_, _, _, rfl, rfl, hB'⟩
    · rintro vs Γ ⟨go, gl, w, rfl, rfl, hB⟩
      simp -implicitDefEqProofs only [S142_4, go_sem, Nat.reduceBEq, Nat.reduceAdd, Nat.reduceSub, Nat.reduceMul, Nat.reduceLeDiff, reduceCtorEq, ↓reduceIte, Int.reduceLT, Int.reduceLE, Int.reduceEq, Int.reduceNe]
      simp (disch := omega) only [wrap_id]
      exact ⟨f - 1, by omega, Up.here ⟨go, gl, w, rfl, k + 1, by rw [hst]; rfl, by omega, by rw [hst]; exact hB⟩⟩
  · have hk : k = x.kids.length := by omega
    rw [hk, List.take_length] at hB ⊢
    obtain ⟨A9, c9, rfl⟩ := hB.val
    simp -implicitDefEqProofs only [go_sem, Nat.reduceBEq, Nat.reduceAdd, Nat.reduceSub, Nat.reduceMul, Nat.reduceLeDiff, reduceCtorEq, ↓reduceIte, Int.reduceLT, Int.reduceLE, Int.reduceEq, Int.reduceNe]
    refine Up.one fun gg hgg => ?_
    subst hR
    have hcl := chL_len z x.kids (n - 1)
    obtain ⟨A', c', he, hs'⟩ := hB.slok (L' := lk (gg :: Γr)) ((lk_sub (by simp)).trans (hgg.trans (lk_sub (by simp)))) (lk_ctx2 hgg) (by omega)
    rw [he, e1]
    exact ⟨gg, A', c', rfl, rfl, hs'⟩
end Go.Proofs.Ytniobbepliknmaa.V
/- The text of parlance/parlref5.Smaller as a statement (slots: 0 g, 1 t, 2 g, 3 t, 5 out, 6 n, 7 x, 8 _, 9 y, 10 v, 11 _); no condition. -/
namespace Go.Proofs.Ytniobbepliknmaa.V
open Go
def S71_1 : Stmt :=
  Stmt.block 3
  (Stmt.seq
    (Stmt.region
      [SOper.mk (some 29) none (SOp.idx 3 (Operand.tmp 25) (Operand.tmp 27)),
        SOper.mk (some 30) none (SOp.load true 3 (Operand.tmp 29)),
        SOper.mk (some 9) none
          (SOp.alloc true 106
            (Value.agg (Array.mk [Value.int IntKind.i64 0, Value.int IntKind.i64 0, Value.slice none 0 0]))),
        SOper.mk none none (SOp.store 3 (Operand.tmp 9) (Operand.tmp 30))]
      [2, 3, 5, 6, 7, 9, 13, 14, 15, 25, 26, 27])
    (Stmt.seq
      (Stmt.quiet
        [SOper.mk (some 31) none (SOp.fld 0 (Operand.tmp 9)),
          SOper.mk (some 32) none (SOp.load false 1 (Operand.tmp 31)),
          SOper.mk (some 33) none (SOp.ibin BinOp.geq (Operand.tmp 32) (Operand.const (Value.int IntKind.i64 0))),
          SOper.mk (some 34) none (SOp.mv (Operand.tmp 33)),
          SOper.mk (some 35) (some (34, true)) (SOp.fld 3 (Operand.tmp 2)),
          SOper.mk (some 36) (some (34, true)) (SOp.load false 1 (Operand.tmp 35)),
          SOper.mk (some 37) (some (34, true)) (SOp.fld 0 (Operand.tmp 9)),
          SOper.mk (some 38) (some (34, true)) (SOp.load false 1 (Operand.tmp 37)),
          SOper.mk (some 39) (some (34, true)) (SOp.idx 2 (Operand.tmp 36) (Operand.tmp 38)),
          SOper.mk (some 40) (some (34, true)) (SOp.fld 0 (Operand.tmp 39)),
          SOper.mk (some 41) (some (34, true)) (SOp.load false 1 (Operand.tmp 40)),
          SOper.mk (some 42) (some (34, true)) (SOp.fld 3 (Operand.tmp 2)),
          SOper.mk (some 43) (some (34, true)) (SOp.load false 1 (Operand.tmp 42)),
          SOper.mk (some 44) (some (34, true)) (SOp.fld 0 (Operand.tmp 7)),
          SOper.mk (some 45) (some (34, true)) (SOp.load false 1 (Operand.tmp 44)),
          SOper.mk (some 46) (some (34, true)) (SOp.idx 2 (Operand.tmp 43) (Operand.tmp 45)),
          SOper.mk (some 47) (some (34, true)) (SOp.fld 0 (Operand.tmp 46)),
          SOper.mk (some 48) (some (34, true)) (SOp.load false 1 (Operand.tmp 47)),
          SOper.mk (some 49) (some (34, true)) (SOp.ibin BinOp.eql (Operand.tmp 41) (Operand.tmp 48)),
          SOper.mk (some 50) none (SOp.pick (Operand.tmp 34) (Operand.tmp 49) (Operand.const (Value.bool false)))]
        [2, 3, 5, 6, 7, 9, 13, 14, 15, 25, 26, 27, 50])
      (Stmt.cond (Operand.tmp 50)
        (Stmt.seq
          (Stmt.region
            [SOper.mk (some 52) none (SOp.load true 3 (Operand.tmp 3)),
              SOper.mk (some 53) none (SOp.mv (Operand.tmp 6)),
              SOper.mk (some 54) none (SOp.load true 3 (Operand.tmp 9)),
              SOper.mk (some 55) none (SOp.call (Operand.func 142) [Operand.tmp 52, Operand.tmp 53, Operand.tmp 54]),
              SOper.mk (some 51) none (SOp.mv (Operand.tmp 55)),
              SOper.mk (some 56) none (SOp.extract 0 (Operand.tmp 51)),
              SOper.mk (some 57) none (SOp.extract 1 (Operand.tmp 51)),
              SOper.mk (some 10) none
                (SOp.alloc true 106
                  (Value.agg (Array.mk [Value.int IntKind.i64 0, Value.int IntKind.i64 0, Value.slice none 0 0]))),
              SOper.mk none none (SOp.store 3 (Operand.tmp 10) (Operand.tmp 56)),
              SOper.mk (some 11) none (SOp.mv (Operand.tmp 57))]
            [2, 3, 5, 6, 7, 10, 13, 14, 15, 25, 26, 27])
          (Stmt.region
            [SOper.mk (some 58) none (SOp.mv (Operand.tmp 5)),
              SOper.mk (some 59) none (SOp.load true 3 (Operand.tmp 10)),
              SOper.mk (some 60) none
                (SOp.buildS 106 1 [Value.int IntKind.i64 0, Value.int IntKind.i64 0, Value.slice none 0 0]
                  [(0, 3, Operand.tmp 59)]),
              SOper.mk (some 61) none
                (SOp.append 104 106 3 40
                  (Value.agg (Array.mk [Value.int IntKind.i64 0, Value.int IntKind.i64 0, Value.slice none 0 0]))
                  (Operand.tmp 58) (Operand.tmp 60)),
              SOper.mk (some 5) none (SOp.mv (Operand.tmp 61))]
            [2, 3, 5, 6, 7, 13, 14, 15, 25, 26, 27]))
        Stmt.skip)))
def S71_2 : Stmt :=
  Stmt.region
  [SOper.mk (some 62) none (SOp.ibin BinOp.add (Operand.tmp 27) (Operand.const (Value.int IntKind.i64 1))),
    SOper.mk (some 27) none (SOp.mv (Operand.tmp 62))]
  [2, 3, 5, 6, 7, 13, 14, 15, 25, 26, 27]
def S71_3 : Stmt :=
  Stmt.seq
  (Stmt.region [SOper.mk (some 28) none (SOp.ibin BinOp.lss (Operand.tmp 27) (Operand.tmp 26))]
    [2, 3, 5, 6, 7, 13, 14, 15, 25, 26, 27, 28])
  (Stmt.seq (Stmt.cond (Operand.tmp 28) Stmt.skip (Stmt.exit 2))
    (Stmt.join S71_1 S71_2 [5] [2, 3, 6, 7, 13, 14, 15, 25, 26, 27]))
def S71_4 : Stmt :=
  Stmt.block 1
  (Stmt.seq
    (Stmt.region
      [SOper.mk (some 17) none (SOp.mv (Operand.tmp 15)),
        SOper.mk (some 18) none (SOp.idx 3 (Operand.tmp 13) (Operand.tmp 15)),
        SOper.mk (some 19) none (SOp.load true 3 (Operand.tmp 18)),
        SOper.mk (some 7) none
          (SOp.alloc true 106
            (Value.agg (Array.mk [Value.int IntKind.i64 0, Value.int IntKind.i64 0, Value.slice none 0 0]))),
        SOper.mk (some 6) none (SOp.mv (Operand.tmp 17)),
        SOper.mk none none (SOp.store 3 (Operand.tmp 7) (Operand.tmp 19))]
      [2, 3, 5, 6, 7, 13, 14, 15])
    (Stmt.seq
      (Stmt.seq
        (Stmt.region
          [SOper.mk (some 20) none (SOp.fld 0 (Operand.tmp 7)),
            SOper.mk (some 21) none (SOp.load false 1 (Operand.tmp 20)),
            SOper.mk (some 22) none (SOp.ibin BinOp.lss (Operand.tmp 21) (Operand.const (Value.int IntKind.i64 0)))]
          [2, 3, 5, 6, 7, 13, 14, 15, 22])
        (Stmt.cond (Operand.tmp 22) (Stmt.exit 1) Stmt.skip))
      (Stmt.seq
        (Stmt.region
          [SOper.mk (some 23) none (SOp.load true 3 (Operand.tmp 7)),
            SOper.mk (some 24) none (SOp.call (Operand.func 141) [Operand.tmp 23]),
            SOper.mk (some 25) none
              (SOp.slc 3 (Operand.tmp 24) (some (Operand.const (Value.int IntKind.i64 1))) none none),
            SOper.mk (some 26) none (SOp.len false (Operand.tmp 25)),
            SOper.mk (some 27) none (SOp.mv (Operand.const (Value.int IntKind.i64 0)))]
          [2, 3, 5, 6, 7, 13, 14, 15, 25, 26, 27])
        (Stmt.block 2 (Stmt.loop S71_3 [5, 27] [2, 3, 6, 7, 13, 14, 15, 25, 26])))))
def S71_5 : Stmt :=
  Stmt.region
  [SOper.mk (some 63) none (SOp.ibin BinOp.add (Operand.tmp 15) (Operand.const (Value.int IntKind.i64 1))),
    SOper.mk (some 15) none (SOp.mv (Operand.tmp 63))]
  [2, 3, 5, 13, 14, 15]
def S71_6 : Stmt :=
  Stmt.seq
  (Stmt.region [SOper.mk (some 16) none (SOp.ibin BinOp.lss (Operand.tmp 15) (Operand.tmp 14))]
    [2, 3, 5, 13, 14, 15, 16])
  (Stmt.seq (Stmt.cond (Operand.tmp 16) Stmt.skip (Stmt.exit 0)) (Stmt.join S71_4 S71_5 [5] [2, 3, 13, 14, 15]))
def S71_0 : Stmt :=
  Stmt.seq
  (Stmt.region
    [SOper.mk (some 2) none (SOp.box true 57 (Operand.tmp 0)),
      SOper.mk (some 3) none (SOp.box true 106 (Operand.tmp 1)),
      SOper.mk (some 4) none (SOp.mv (Operand.const (Value.slice none 0 0)))]
    [2, 3])
  (Stmt.seq (Stmt.region [SOper.mk (some 5) none (SOp.mv (Operand.const (Value.slice none 0 0)))] [2, 3, 5])
    (Stmt.seq
      (Stmt.seq
        (Stmt.region
          [SOper.mk (some 12) none (SOp.load true 3 (Operand.tmp 3)),
            SOper.mk (some 13) none (SOp.call (Operand.func 141) [Operand.tmp 12]),
            SOper.mk (some 14) none (SOp.len false (Operand.tmp 13)),
            SOper.mk (some 15) none (SOp.mv (Operand.const (Value.int IntKind.i64 0)))]
          [2, 3, 5, 13, 14, 15])
        (Stmt.block 0 (Stmt.loop S71_6 [5, 15] [2, 3, 13, 14])))
      (Stmt.seq
        (Stmt.region
          [SOper.mk (some 64) none (SOp.mv (Operand.tmp 5)), SOper.mk (some 4) none (SOp.mv (Operand.tmp 64))] [4])
        Stmt.ret)))
def S71 : FnS := ⟨65, [(4, none)], S71_0⟩
theorem tr71 : trFn Try.prog 71 [2, 3, 7, 9, 10] [[2, 3], [2, 3, 5], [2, 3, 5, 13, 14, 15], [5, 15], [2, 3, 13, 14], [2, 3, 5, 13, 14, 15, 16], [5], [2, 3, 13, 14, 15], [2, 3, 5, 6, 7, 13, 14, 15], [2, 3, 5, 6, 7, 13, 14, 15, 22], [2, 3, 5, 6, 7, 13, 14, 15, 25, 26, 27], [5, 27], [2, 3, 6, 7, 13, 14, 15, 25, 26], [2, 3, 5, 6, 7, 13, 14, 15, 25, 26, 27, 28], [5], [2, 3, 6, 7, 13, 14, 15, 25, 26, 27], [2, 3, 5, 6, 7, 9, 13, 14, 15, 25, 26, 27], [2, 3, 5, 6, 7, 9, 13, 14, 15, 25, 26, 27, 50], [2, 3, 5, 6, 7, 10, 13, 14, 15, 25, 26, 27], [2, 3, 5, 6, 7, 13, 14, 15, 25, 26, 27], [2, 3, 5, 6, 7, 13, 14, 15, 25, 26, 27], [2, 3, 5, 13, 14, 15], [4]] = some S71 := by kernel_rfl
end Go.Proofs.Ytniobbepliknmaa.V
/- Smaller trees, once more: parlref5.Smaller; no condition. -/
namespace Go.Proofs.Ytniobbepliknmaa.V
open Go
set_option linter.unusedVariables false
set_option linter.unusedSimpArgs false
attribute [local go_sem] e_seq e_region e_quiet e_join e_loop e_cond e_block e_exit e_ret e_skip e_fin e_kseq e_snrm e_sret e_sex e_bnrm e_bret e_bex e_rnrm e_rret e_res e_condC e_nil e_g e_mv g_mv e_pick g_pick pickC_eq e_ibin g_ibin ibinC_eq e_sbin g_sbin e_beq g_beq beqC_eq e_nilq g_nilq nilqC_sl nilqC_pt nilqC_mp e_un g_un unC_not unC_neg e_conv g_conv convC_eq e_fld g_fld fldC_ref fldC_ptr e_nilCheck g_nilCheck nilCheckC_ref nilCheckC_ptr nilCheckC_fun e_field g_field fieldC_eq e_len g_len lenC_sl lenC_str e_extract g_extract extractC_eq e_mkFunc e_build g_build e_idiv g_idiv idivC_eq e_ishift g_ishift ishiftC_eq e_idx g_idx e_idxA g_idxA e_load g_load e_loadB g_loadB atB_ref atB_v g_mkFunc loadC_ref loadC_ptr loadB_eq e_slc g_slc e_box boxC_loc boxC_esc e_alloc allocC_loc allocC_esc e_buildS e_store storeC_ref storeC_ptr storeB_eq e_append e_appz e_mk mkC_eq e_call callC_eq e_fn g_fn fnC_eq fnV_min' fnV_max' fnV_rune' e_q g_q e_a e_n g_call g_box g_alloc g_buildS g_store g_append g_mk g_a g_n g_dead e_dead e_callK e_drawn e_tree e_finJ e_tk e_tfin e_tno e_nbt_q e_nbt_qn e_nbt_a e_nbt_an e_nbt_fin e_drawnB e_bxb_nil e_bxb e_stB_none e_stB_some boxSt_store bs_mv bs_pick bs_ibin bs_idiv bs_ishift bs_sbin bs_beq bs_nilq bs_un bs_conv bs_box bs_alloc bs_build bs_buildS bs_load bs_fld bs_nilCheck bs_idx bs_idxA bs_field bs_slc bs_len bs_append bs_appz bs_mk bs_call bs_extract bs_mkFunc bs_fn bs_q bs_a bs_n bs_loadB bs_dead isBox_box e_early_nil e_early_t e_early_f e_nob_nil e_nob_none e_nob_some isBox_dead isBox_v isBox_ref e_dnil e_dk e_ek e_finB vcOps_vc1 e_dcons e_tq e_ekt e_tearly e_talt e_dearly look_nil look_c proj_nil proj_c looks_nil looks_c zip_nil zip_c val_tmp val_const val_func slv_v slv_box slv_ref slot_tmp slot_const slot_func slotL_v slotL_box slotL_ref put_some put_none updBox_c boxSet_box gd_eq slotVals_nil slotVals_c slotVals_b boxV_box boxOn_box slotsOn_nil slotsOn_c slotsOn_b resV_one resV_two vals_nil vals_c allOn_nil allOn_c partOn_nil partOn_c partVals_nil partVals_c fits_nil fits_c fillL_nil fillL_c mkv_one mkv_agg cellsV_agg cellsV_int cellsV_bool cellsV_slice cellsV_string cellsV_pointer cellsV_func cellsV_nilf cellsV_map one'_nil one'_c oc_int oc_bool oc_slice oc_string oc_pointer oc_func oc_nilf oc_map setC_eq iv_add iv_sub iv_mul iv_eql iv_neq iv_lss iv_leq iv_gtr iv_geq iok_add iok_sub iok_mul iok_eql iok_neq iok_lss iok_leq iok_gtr iok_geq pickV_bool args0_nil args0_c bnd_none bnd_some imp_bt imp_bf imp_ebt imp_ebf imp_eb1 imp_np imp_pp beq_tt beq_tf beq_ft beq_ff cond_or cond_and e_round e_meet Int.le_refl Int.toNat_zero decide_true decide_false Bool.or_false Bool.false_or Bool.true_or Bool.or_true Bool.and_false Bool.false_and Bool.bne_false Bool.bne_true beq_iff_eq Int.cast_ofNat_Int not_false_eq_true not_true_eq_false false_and and_false false_implies true_implies true_and and_true Bool.true_and Bool.and_true Bool.not_true Bool.not_false forall_const implies_true List.take_zero List.drop_zero List.take_succ_cons List.drop_succ_cons List.take_nil List.drop_nil List.length_cons List.length_nil List.nil_append List.append_nil List.cons_append Int.toNat_natCast decide_eq_true_eq decide_eq_false_iff_not cond_true cond_false and_self List.getElem?_cons_zero List.getElem?_cons_succ List.set_cons_zero List.set_cons_succ Option.some.injEq exists_eq_left' Nat.zero_add Nat.add_zero Nat.mul_one imp_self true_or or_true or_false false_or Bool.or_eq_true Bool.or_eq_false_iff Bool.and_eq_true Bool.and_eq_false_iff Bool.not_eq_true' Bool.not_eq_false'

theorem partsL_mem {y : Tr} {ks : List Tr} : y ∈ partsL ks ↔ ∃ k ∈ ks, y ∈ partsT k := by
  induction ks with
  | nil => simp [partsL]
  | cons k ks ih => simp [partsL, ih]
theorem parts_valid {g : Gr} (x : Tr) : validT g x = true → ∀ y ∈ partsT x, validT g y = true := by
  refine Tr.ind (p := fun x => validT g x = true → ∀ y ∈ partsT x, validT g y = true) (fun x ih => ?_) x
  intro hv y hy
  rw [partsT_eq] at hy
  rcases List.mem_cons.1 hy with rfl | hy
  · exact hv
  · obtain ⟨k, hk, hy⟩ := partsL_mem.1 hy
    exact ih k hk (valid_kids hv k hk) y hy
theorem parts_num (x : Tr) : ∀ y ∈ partsT x, numT y ≤ numT x := by
  refine Tr.ind (p := fun x => ∀ y ∈ partsT x, numT y ≤ numT x) (fun x ih => ?_) x
  intro y hy
  rw [partsT_eq] at hy
  rcases List.mem_cons.1 hy with rfl | hy
  · exact Nat.le_refl _
  · obtain ⟨k, hk, hy⟩ := partsL_mem.1 hy
    have h1 := ih k hk y hy
    have h2 := numL_mem hk
    have h3 := numT_eq x
    omega
def rsC (g : Gr) (p y : Tr) : Bool := decide (0 ≤ y.rule) && decide (leftF g y = leftF g p)
/-- the trees with the part of number n replaced -/
def rsAt (g : Gr) (x : Tr) (n : Nat) (p : Tr) : List Tr := if p.rule < 0 then [] else ((partsL p.kids).filter (rsC g p)).map fun y => (chT y x n).1
def rsL (g : Gr) (x : Tr) : Nat → List Tr → List Tr
  | _, [] => []
  | n, p :: ps => rsAt g x n p ++ rsL g x (n + 1) ps
def rsF (g : Gr) (x : Tr) : List Tr := rsL g x 0 (partsT x)
theorem rsL_append (g : Gr) (x : Tr) (a b : List Tr) (n : Nat) : rsL g x n (a ++ b) = rsL g x n a ++ rsL g x (n + a.length) b := by
  induction a generalizing n with
  | nil => simp [rsL]
  | cons p a ih =>
    simp only [List.cons_append, rsL, ih, List.append_assoc, List.length_cons]
    rw [show n + 1 + a.length = n + (a.length + 1) by omega]
theorem rsAt_len {g : Gr} {x : Tr} {n : Nat} (p : Tr) : (rsAt g x n p).length ≤ numT p := by
  unfold rsAt
  split
  · simp
  · rw [List.length_map]
    have h1 := List.length_filter_le (rsC g p) (partsL p.kids)
    have h2 := partsT_len p
    rw [partsT_eq, List.length_cons] at h2
    omega
theorem rsL_len {g : Gr} {x : Tr} {N : Nat} : ∀ {ps : List Tr} {n : Nat}, (∀ p ∈ ps, numT p ≤ N) → (rsL g x n ps).length ≤ ps.length * N
  | [], n, _ => by simp [rsL]
  | p :: ps, n, h => by
    have h1 := rsAt_len (g := g) (x := x) (n := n) p
    have h2 := h p (by simp)
    have h3 := rsL_len (g := g) (x := x) (N := N) (ps := ps) (n := n + 1) fun q hq => h q (by simp [hq])
    simp only [rsL, List.length_append, List.length_cons, Nat.add_mul, Nat.one_mul]
    omega
set_option maxHeartbeats 4000000 in
theorem ref_smaller {Γr : Ctx} {g : Gr} {B : Option Addr} {d : Nat} (hg : SlOk (lk Γr) B d g.rs) (x : Tr) {A : Option Addr} {c : Nat} (hx : SlOk (lk Γr) A c x.kids) (hn : numT x ≤ 1048576) (hv : validT g x = true) :
    Ret Try.prog 71 [.agg #[.int .i64 g.ts, .int .i64 g.ns, .int .i64 g.st, .slice B g.rs.length d], .agg #[.int .i64 x.rule, .int .i64 x.term, .slice A x.kids.length c]] Γr [] (OwnR Γr (rsF g x)) := by
  generalize hR : OwnR Γr (rsF g x) = R
  refine ret_of_vc tr71 (Nat.le_of_ble_eq_true rfl) ?_
  have hpl := partsT_len x
  have hpv := parts_valid x hv
  have hpn := parts_num x
  simp -implicitDefEqProofs only [S71, S71_0, go_sem, Nat.reduceBEq, Nat.reduceAdd, Nat.reduceSub, Nat.reduceMul, Nat.reduceLeDiff, reduceCtorEq, ↓reduceIte, Int.reduceLT, Int.reduceLE, Int.reduceEq, Int.reduceNe]
  intro b1 b2
  refine CallVC.pure (ref_parts x hx hn) (by simp) ?_
  rintro v1 Γ1 ⟨go1, gl1, rfl, hB1⟩
  obtain ⟨A1, c1, rfl, hs1⟩ := hB1.slok (L' := lk ([go1, gl1] ++ Γr)) (lk_sub (by simp)) (lk_sub fun y hy => by simp at hy ⊢; rcases hy with h | h <;> simp [h]) (by omega)
  simp -implicitDefEqProofs only [go_sem, Nat.reduceBEq, Nat.reduceAdd, Nat.reduceSub, Nat.reduceMul, Nat.reduceLeDiff, reduceCtorEq, ↓reduceIte, Int.reduceLT, Int.reduceLE, Int.reduceEq, Int.reduceNe]
  refine s_loop (fun f vs Γ => ∃ go gl gp v, Γ = [go, gl, gp] ∧ SlOk (lk (gp :: Γr)) A1 c1 (partsT x) ∧ ∃ k : Nat, vs = [.v true v, .v true (.int .i64 k)] ∧ k + f = (partsT x).length ∧ Bld go (lk (gl :: gp :: Γr)) 106 v (rsL g x 0 ((partsT x).take k))) (partsT x).length
    (Up.sel [[], [], [0, 1]] (by decide) fun _ hle => ⟨_, _, _, .slice none 0 0, rfl, hs1.mono (lk_ctx (hle [0, 1] (by simp))), 0, rfl, by omega, Bld.nil _ _ _⟩) ?_
  clear hs1 hB1
  rintro f vs Γ ⟨go, gl, gp, v, rfl, hs1, k, rfl, hkf, hB⟩
  simp -implicitDefEqProofs only [S71_6, go_sem, Nat.reduceBEq, Nat.reduceAdd, Nat.reduceSub, Nat.reduceMul, Nat.reduceLeDiff, reduceCtorEq, ↓reduceIte, Int.reduceLT, Int.reduceLE, Int.reduceEq, Int.reduceNe]
  refine ⟨fun hlt => ?_, fun hge => ?_⟩
  · have hk : k < (partsT x).length := by omega
    have hm := List.getElem_mem hk
    have hst : rsL g x 0 ((partsT x).take (k + 1)) = rsL g x 0 ((partsT x).take k) ++ rsAt g x k (partsT x)[k] := by
      rw [List.take_succ_eq_append_getElem hk, rsL_append]
      simp [rsL]
      congr 1
      omega
    have hl1 : (rsL g x 0 ((partsT x).take k)).length ≤ 1048576 * 1048576 := by
      have h1 := rsL_len (g := g) (x := x) (n := 0) (N := numT x) (ps := (partsT x).take k) fun q hq => hpn q (List.mem_of_mem_take hq)
      have h2 : ((partsT x).take k).length * numT x ≤ 1048576 * 1048576 := Nat.mul_le_mul (by rw [List.length_take]; omega) hn
      omega
    obtain ⟨b5, o5, hA5, A6, c6, hs6, hc6⟩ := hs1.tr hk
    have hpv1 := hpv _ hm
    have hpn1 := hpn _ hm
    generalize (partsT x)[k] = p at *
    generalize rsL g x 0 ((partsT x).take k) = pre at *
    refine s_join (fun vs Γ => ∃ go gl gp v, Γ = [go, gl, gp] ∧ SlOk (lk (gp :: Γr)) A1 c1 (partsT x) ∧ vs = [.v true v] ∧ Bld go (lk (gl :: gp :: Γr)) 106 v (pre ++ rsAt g x k p)) ?_ ?_
    · simp -implicitDefEqProofs only [S71_4, go_sem, Nat.reduceBEq, Nat.reduceAdd, Nat.reduceSub, Nat.reduceMul, Nat.reduceLeDiff, reduceCtorEq, ↓reduceIte, Int.reduceLT, Int.reduceLE, Int.reduceEq, Int.reduceNe]
      refine s_idx hA5 (by omega) (by omega) ?_
      simp -implicitDefEqProofs only [go_sem, Nat.reduceBEq, Nat.reduceAdd, Nat.reduceSub, Nat.reduceMul, Nat.reduceLeDiff, reduceCtorEq, ↓reduceIte, Int.reduceLT, Int.reduceLE, Int.reduceEq, Int.reduceNe]
      refine s_ld0 (hc6 _ (lk_sub fun y hy => by simp at hy ⊢; rcases hy with h | h <;> simp [h])) (by simp) (by simp) ?_
      simp -implicitDefEqProofs only [go_sem, Nat.reduceBEq, Nat.reduceAdd, Nat.reduceSub, Nat.reduceMul, Nat.reduceLeDiff, reduceCtorEq, ↓reduceIte, Int.reduceLT, Int.reduceLE, Int.reduceEq, Int.reduceNe]
      intro b6
      refine ⟨fun hneg => Up.here ⟨go, gl, gp, v, rfl, hs1, rfl, by rw [rsAt, if_pos hneg, List.append_nil]; exact hB⟩, fun hpos => ?_⟩
      refine CallVC.pure (Γr1 := gp :: Γr) (ref_parts p hs6 (by omega)) (List.sublist_append_right [go, gl] (gp :: Γr)) ?_
      rintro v2 Γ2 ⟨go2, gl2, rfl, hB2⟩
      have hpl2 := partsT_len p
      obtain ⟨A7, c7, rfl, hs7⟩ := hB2.slok (L' := lk ([go2, gl2] ++ gp :: Γr)) (lk_sub (by simp)) (lk_sub fun y hy => by simp at hy ⊢; rcases hy with h | h | h <;> simp [h]) (by omega)
      have hpe := partsT_eq p
      rw [hpe] at hs7 ⊢
      simp -implicitDefEqProofs only [go_sem, Nat.reduceBEq, Nat.reduceAdd, Nat.reduceSub, Nat.reduceMul, Nat.reduceLeDiff, reduceCtorEq, ↓reduceIte, Int.reduceLT, Int.reduceLE, Int.reduceEq, Int.reduceNe]
      refine s_lo 1 (by simp -implicitDefEqProofs only [go_sem, Nat.reduceBEq, Nat.reduceAdd, Nat.reduceSub, Nat.reduceMul, Nat.reduceLeDiff, reduceCtorEq, ↓reduceIte, Int.reduceLT, Int.reduceLE, Int.reduceEq, Int.reduceNe]; exact ⟨_, rfl⟩) (by omega) (by have := hs7.cap; simpa using this) ?_
      intro A8 hA8
      have hs8 := hs7.slice (l := 1) (m := (p :: partsL p.kids).length) (by simp) (Nat.le_refl _)
      rw [List.take_length, List.drop_succ_cons, List.drop_zero] at hs8
      rw [show (if c7 = 1 then A7 else A7.map (·.add (1 * Rep.sz Tr))) = A8 from hA8.symm] at hs8
      rw [show (partsL p.kids).length + 1 - 1 = (partsL p.kids).length by omega]
      have hq1 : ∀ y ∈ partsL p.kids, validT g y = true := fun y hy => parts_valid p hpv1 y (by rw [hpe]; simp [hy])
      have hq2 : ∀ y ∈ partsL p.kids, numT y ≤ numT x := fun y hy => Nat.le_trans (parts_num p y (by rw [hpe]; simp [hy])) hpn1
      have hq3 : (partsL p.kids).length ≤ 1048576 := by rw [hpe, List.length_cons] at hpl2; omega
      have hra : rsAt g x k p = ((partsL p.kids).filter (rsC g p)).map fun y => (chT y x k).1 := by rw [rsAt, if_neg (by omega)]
      rw [hra]
      generalize partsL p.kids = qs at *
      simp -implicitDefEqProofs only [go_sem, Nat.reduceBEq, Nat.reduceAdd, Nat.reduceSub, Nat.reduceMul, Nat.reduceLeDiff, reduceCtorEq, ↓reduceIte, Int.reduceLT, Int.reduceLE, Int.reduceEq, Int.reduceNe]
      refine s_loop (fun f vs Γ => ∃ go gl gq gp v, Γ = [go, gl, gq, gp] ∧ SlOk (lk (gq :: gp :: Γr)) A8 (c7 - 1) qs ∧ SlOk (lk (gp :: Γr)) A1 c1 (partsT x) ∧ ∃ j : Nat, vs = [.v true v, .v true (.int .i64 j)] ∧ j + f = qs.length ∧ Bld go (lk (gl :: gq :: gp :: Γr)) 106 v (pre ++ ((qs.take j).filter (rsC g p)).map fun y => (chT y x k).1)) qs.length
        (Up.sel [[2], [3], [0, 1], [4]] (by decide) fun _ hle => ⟨_, _, _, _, _, rfl, hs8.mono (lk_ctx (Γr := gp :: Γr) (hle [0, 1] (by simp))), hs1, 0, rfl, by omega, by
          rw [List.take_zero, List.filter_nil, List.map_nil, List.append_nil]
          exact hB.mono (Mem.le.refl _) (lk_sub (Γ := gl :: gp :: Γr) (Γ' := gl :: unis [go2, gl2] :: gp :: Γr) fun y hy => by simp at hy ⊢; rcases hy with h | h | h <;> simp [h])⟩) ?_
      clear hs7 hs8 hB hB2 hs1 hs6 hc6
      rintro f2 vs Γ ⟨go, gl, gq, gp, v, rfl, hs8, hs1, j, rfl, hjf, hB⟩
      simp -implicitDefEqProofs only [S71_3, go_sem, Nat.reduceBEq, Nat.reduceAdd, Nat.reduceSub, Nat.reduceMul, Nat.reduceLeDiff, reduceCtorEq, ↓reduceIte, Int.reduceLT, Int.reduceLE, Int.reduceEq, Int.reduceNe]
      refine ⟨fun hlt => ?_, fun hge => ?_⟩
      · have hj : j < qs.length := by omega
        have hmj := List.getElem_mem hj
        have hst2 : ((qs.take (j + 1)).filter (rsC g p)) = ((qs.take j).filter (rsC g p)) ++ if rsC g p qs[j] then [qs[j]] else [] := by
          rw [List.take_succ_eq_append_getElem hj, List.filter_append]
          simp [List.filter_cons]
        have hfl := List.length_filter_le (rsC g p) (qs.take j)
        rw [List.length_take] at hfl
        obtain ⟨b7, o7, hA9, A10, c10, hs10, hc10⟩ := hs8.tr hj
        have hy1 := hq1 _ hmj
        generalize qs[j] = y at *
        generalize (qs.take j).filter (rsC g p) = fl at *
        refine s_join (fun vs Γ => ∃ go gl gq gp v, Γ = [go, gl, gq, gp] ∧ SlOk (lk (gq :: gp :: Γr)) A8 (c7 - 1) qs ∧ SlOk (lk (gp :: Γr)) A1 c1 (partsT x) ∧ vs = [.v true v] ∧ Bld go (lk (gl :: gq :: gp :: Γr)) 106 v (pre ++ (fl ++ if rsC g p y then [y] else []).map fun y => (chT y x k).1)) ?_ ?_
        · simp -implicitDefEqProofs only [S71_1, go_sem, Nat.reduceBEq, Nat.reduceAdd, Nat.reduceSub, Nat.reduceMul, Nat.reduceLeDiff, reduceCtorEq, ↓reduceIte, Int.reduceLT, Int.reduceLE, Int.reduceEq, Int.reduceNe]
          refine s_idx hA9 (by omega) (by omega) ?_
          simp -implicitDefEqProofs only [go_sem, Nat.reduceBEq, Nat.reduceAdd, Nat.reduceSub, Nat.reduceMul, Nat.reduceLeDiff, reduceCtorEq, ↓reduceIte, Int.reduceLT, Int.reduceLE, Int.reduceEq, Int.reduceNe]
          refine s_ld0 (hc10 _ (lk_sub fun y hy => by simp at hy ⊢; rcases hy with h | h | h <;> simp [h])) (by simp) (by simp) ?_
          simp -implicitDefEqProofs only [go_sem, Nat.reduceBEq, Nat.reduceAdd, Nat.reduceSub, Nat.reduceMul, Nat.reduceLeDiff, reduceCtorEq, ↓reduceIte, Int.reduceLT, Int.reduceLE, Int.reduceEq, Int.reduceNe]
          intro b9
          by_cases e : 0 ≤ y.rule
          · have e1 : decide (0 ≤ y.rule) = true := decide_eq_true e
            have hyr : y.rule.toNat < g.rs.length := by
              rcases valid_rule hy1 with ⟨q, _⟩ | ⟨_, q⟩ <;> omega
            have hpr : 0 ≤ p.rule ∧ p.rule.toNat < g.rs.length := by
              rcases valid_rule hpv1 with ⟨q, _⟩ | ⟨_, q⟩ <;> omega
            have hly : leftF g y = g.rs[y.rule.toNat].l := by simp [leftF, List.getD, hyr]
            have hlp : leftF g p = g.rs[p.rule.toNat].l := by simp [leftF, List.getD, hpr.2]
            obtain ⟨bB, oB, hBy, A2, c2, hs2, hc2⟩ := hg.ru hyr
            obtain ⟨bC, oC, hBp, A3, c3, hs3, hc3⟩ := hg.ru hpr.2
            simp -implicitDefEqProofs only [e1, go_sem, Nat.reduceBEq, Nat.reduceAdd, Nat.reduceSub, Nat.reduceMul, Nat.reduceLeDiff, reduceCtorEq, ↓reduceIte, Int.reduceLT, Int.reduceLE, Int.reduceEq, Int.reduceNe]
            refine s_idx hBy (by omega) (by omega) ?_
            simp -implicitDefEqProofs only [go_sem, Nat.reduceBEq, Nat.reduceAdd, Nat.reduceSub, Nat.reduceMul, Nat.reduceLeDiff, reduceCtorEq, ↓reduceIte, Int.reduceLT, Int.reduceLE, Int.reduceEq, Int.reduceNe]
            refine s_ld0 (hc2 _ (lk_r _ _)) (by simp) (by simp) ?_
            simp -implicitDefEqProofs only [go_sem, Nat.reduceBEq, Nat.reduceAdd, Nat.reduceSub, Nat.reduceMul, Nat.reduceLeDiff, reduceCtorEq, ↓reduceIte, Int.reduceLT, Int.reduceLE, Int.reduceEq, Int.reduceNe]
            refine s_idx hBp (by omega) (by omega) ?_
            simp -implicitDefEqProofs only [go_sem, Nat.reduceBEq, Nat.reduceAdd, Nat.reduceSub, Nat.reduceMul, Nat.reduceLeDiff, reduceCtorEq, ↓reduceIte, Int.reduceLT, Int.reduceLE, Int.reduceEq, Int.reduceNe]
            refine s_ld0 (hc3 _ (lk_r _ _)) (by simp) (by simp) ?_
            simp -implicitDefEqProofs only [go_sem, Nat.reduceBEq, Nat.reduceAdd, Nat.reduceSub, Nat.reduceMul, Nat.reduceLeDiff, reduceCtorEq, ↓reduceIte, Int.reduceLT, Int.reduceLE, Int.reduceEq, Int.reduceNe]
            rw [← hly, ← hlp]
            refine ⟨fun he => ?_, fun he => Up.here ⟨go, gl, gq, gp, v, rfl, hs8, hs1, rfl, by
              rw [if_neg (by simp [rsC, he]), List.append_nil]
              exact hB⟩⟩
            rw [if_pos (by simp [rsC, e, he])]
            refine CallVC.pure (Γr1 := gq :: gp :: Γr) (ref_changed hs10 x k (hx.mono (lk_sub fun y hy => by simp [hy])) hn (by omega) (by omega)) (List.sublist_append_right [go, gl] (gq :: gp :: Γr)) ?_
            rintro v3 Γ3 ⟨gg, A', c', rfl, rfl, hs'⟩
            simp -implicitDefEqProofs only [go_sem, Nat.reduceBEq, Nat.reduceAdd, Nat.reduceSub, Nat.reduceMul, Nat.reduceLeDiff, reduceCtorEq, ↓reduceIte, Int.reduceLT, Int.reduceLE, Int.reduceEq, Int.reduceNe]
            intro b10 b11
            refine s_app1 (α := Tr) (ix := 2) (L := lk (gl :: gq :: gp :: Γr)) (L' := lk ([gg, gl] ++ gq :: gp :: Γr)) (x := (chT y x k).1) rfl hB (lk_sub fun y hy => by simp at hy ⊢; rcases hy with h | h | h | h <;> simp [h]) (ok_tr.2 ⟨A', c', rfl, hs'.mono (lk_sub fun y hy => by simp at hy ⊢; rcases hy with h | h | h | h <;> simp [h])⟩) (cells_lk lk_head) rfl (by simp only [List.length_append, List.length_map]; omega) (by simp only [List.length_append, List.length_map]; unfold maxLen; omega) ?_
            intro v' g' hB' _
            simp -implicitDefEqProofs only [go_sem, Nat.reduceBEq, Nat.reduceAdd, Nat.reduceSub, Nat.reduceMul, Nat.reduceLeDiff, reduceCtorEq, ↓reduceIte, Int.reduceLT, Int.reduceLE, Int.reduceEq, Int.reduceNe]
            exact Up.sel [[2], [1, 3], [4], [5]] (by decide) fun _ hle => ⟨_, _, _, _, _, rfl, hs8, hs1, rfl, by
              rw [List.map_append, ← List.append_assoc]
              exact hB'.mono (Mem.le.refl _) (lk_ctx (Γr := gq :: gp :: Γr) (hle [1, 3] (by simp)))⟩
          · have e1 : decide (0 ≤ y.rule) = false := decide_eq_false e
            simp -implicitDefEqProofs only [e1, go_sem, Nat.reduceBEq, Nat.reduceAdd, Nat.reduceSub, Nat.reduceMul, Nat.reduceLeDiff, reduceCtorEq, ↓reduceIte, Int.reduceLT, Int.reduceLE, Int.reduceEq, Int.reduceNe]
            refine s_idxg (b := 0) (o := 0) (by simp) ?_
            simp -implicitDefEqProofs only [go_sem, Nat.reduceBEq, Nat.reduceAdd, Nat.reduceSub, Nat.reduceMul, Nat.reduceLeDiff, reduceCtorEq, ↓reduceIte, Int.reduceLT, Int.reduceLE, Int.reduceEq, Int.reduceNe]
            refine s_ldg0 (cs := [.int .i64 0]) (by simp) (by simp) (by simp) (by simp) ?_
            simp -implicitDefEqProofs only [go_sem, Nat.reduceBEq, Nat.reduceAdd, Nat.reduceSub, Nat.reduceMul, Nat.reduceLeDiff, reduceCtorEq, ↓reduceIte, Int.reduceLT, Int.reduceLE, Int.reduceEq, Int.reduceNe]
            refine s_idxg (b := 0) (o := 0) (by simp) ?_
            simp -implicitDefEqProofs only [go_sem, Nat.reduceBEq, Nat.reduceAdd, Nat.reduceSub, Nat.reduceMul, Nat.reduceLeDiff, reduceCtorEq, ↓reduceIte, Int.reduceLT, Int.reduceLE, Int.reduceEq, Int.reduceNe]
            refine s_ldg0 (cs := [.int .i64 0]) (by simp) (by simp) (by simp) (by simp) ?_
            simp -implicitDefEqProofs only [go_sem, Nat.reduceBEq, Nat.reduceAdd, Nat.reduceSub, Nat.reduceMul, Nat.reduceLeDiff, reduceCtorEq, ↓reduceIte, Int.reduceLT, Int.reduceLE, Int.reduceEq, Int.reduceNe]
            refine Up.here ⟨go, gl, gq, gp, v, rfl, hs8, hs1, rfl, ?_⟩
            rw [if_neg (by simp [rsC, e]), List.append_nil]
            exact hB
        · rintro vs Γ ⟨go, gl, gq, gp, v, rfl, hs8, hs1, rfl, hB⟩
          simp -implicitDefEqProofs only [S71_2, go_sem, Nat.reduceBEq, Nat.reduceAdd, Nat.reduceSub, Nat.reduceMul, Nat.reduceLeDiff, reduceCtorEq, ↓reduceIte, Int.reduceLT, Int.reduceLE, Int.reduceEq, Int.reduceNe]
          simp (disch := omega) only [wrap_id]
          exact ⟨f2 - 1, by omega, Up.here ⟨go, gl, gq, gp, v, rfl, hs8, hs1, j + 1, rfl, by omega, by rw [hst2]; exact hB⟩⟩
      · have hj : j = qs.length := by omega
        rw [hj, List.take_length] at hB
        exact Up.sel [[0], [1, 2], [3]] (by decide) fun _ hle => ⟨_, _, _, _, rfl, hs1, rfl, hB.mono (Mem.le.refl _) ((lk_sub (Γ' := [gl, gq] ++ gp :: Γr) (by simp)).trans (lk_ctx (hle [1, 2] (by simp))))⟩
    · rintro vs Γ ⟨go, gl, gp, v, rfl, hs1, rfl, hB⟩
      simp -implicitDefEqProofs only [S71_5, go_sem, Nat.reduceBEq, Nat.reduceAdd, Nat.reduceSub, Nat.reduceMul, Nat.reduceLeDiff, reduceCtorEq, ↓reduceIte, Int.reduceLT, Int.reduceLE, Int.reduceEq, Int.reduceNe]
      simp (disch := omega) only [wrap_id]
      exact ⟨f - 1, by omega, Up.here ⟨go, gl, gp, v, rfl, hs1, k + 1, rfl, by omega, by rw [hst]; exact hB⟩⟩
  · have hk : k = (partsT x).length := by omega
    rw [hk, List.take_length] at hB
    refine Up.sel [[0], [1, 2]] (by decide) fun _ hle => ?_
    subst hR
    exact ⟨_, _, rfl, hB.mono (Mem.le.refl _) ((lk_sub (Γ' := [gl, gp] ++ Γr) (by simp)).trans (lk_ctx (hle [1, 2] (by simp))))⟩
end Go.Proofs.Ytniobbepliknmaa.V
/- The two ways to smaller trees are one: the plain law; no condition. -/
namespace Go.Proofs.Ytniobbepliknmaa.V
open Go
set_option linter.unusedVariables false
set_option linter.unusedSimpArgs false

theorem chL_neg (z : Tr) (ks : List Tr) {n : Int} (h : n < 0) : chL z ks n = (ks, n) := by
  induction ks with
  | nil => simp [chL]
  | cons k ks ih =>
    have : chK z k n = (k, n) := by unfold chK; rw [if_neg (by omega)]
    rw [chL_cons, this, ih]
theorem chL_skip {z : Tr} {ks : List Tr} (h : ∀ k ∈ ks, ∀ n : Int, (numT k : Int) ≤ n → chT z k n = (k, n - numT k)) : ∀ n : Int, (numL ks : Int) ≤ n → chL z ks n = (ks, n - numL ks) := by
  induction ks with
  | nil => intro n hn; simp [chL, numL]
  | cons k ks ih =>
    intro n hn
    simp only [numL] at hn ⊢
    have h1 : chK z k n = (k, n - numT k) := by unfold chK; rw [if_pos (by omega)]; exact h k (by simp) n (by omega)
    rw [chL_cons, h1, ih (fun y hy => h y (by simp [hy])) (n - numT k) (by omega)]
    simp
    omega
theorem chT_skip (z x : Tr) : ∀ n : Int, (numT x : Int) ≤ n → chT z x n = (x, n - numT x) := by
  refine Tr.ind (p := fun x => ∀ n : Int, (numT x : Int) ≤ n → chT z x n = (x, n - numT x)) (fun x ih => ?_) x
  intro n hn
  have h1 := numT_eq x
  have h2 := numT_pos x
  rw [chT_eq, if_neg (by omega), chL_skip ih (n - 1) (by omega)]
  cases x with
  | mk r t ks =>
    simp only [Tr.rule, Tr.term, Tr.kids] at h1 ⊢
    rw [h1]
    simp
    omega
theorem chL_hit {z : Tr} {ks : List Tr} (h : ∀ k ∈ ks, ∀ n : Int, 0 ≤ n → n < numT k → (chT z k n).2 = -1) : ∀ n : Int, 0 ≤ n → n < numL ks → (chL z ks n).2 = -1 := by
  induction ks with
  | nil => intro n h0 h1; simp [numL] at h1; omega
  | cons k ks ih =>
    intro n h0 h1
    simp only [numL] at h1
    rw [chL_cons]
    have e : chK z k n = chT z k n := by unfold chK; rw [if_pos h0]
    rw [e]
    by_cases hlt : n < numT k
    · rw [h k (by simp) n h0 hlt, chL_neg z ks (by omega)]
    · rw [chT_skip z k n (by omega)]
      exact ih (fun y hy => h y (by simp [hy])) _ (by simp only; omega) (by simp only; omega)
theorem chT_hit (z x : Tr) : ∀ n : Int, 0 ≤ n → n < numT x → (chT z x n).2 = -1 := by
  refine Tr.ind (p := fun x => ∀ n : Int, 0 ≤ n → n < numT x → (chT z x n).2 = -1) (fun x ih => ?_) x
  intro n h0 h1
  have h2 := numT_eq x
  rw [chT_eq]
  split
  · rfl
  · exact chL_hit ih (n - 1) (by omega) (by omega)
/-- the kid that is reached is changed -/
theorem chL_at (z k : Tr) (a b : List Tr) {m : Int} (h0 : 0 ≤ m) (h1 : m < numT k) : (chL z (a ++ k :: b) (numL a + m)).1 = a ++ (chT z k m).1 :: b := by
  induction a with
  | nil =>
    rw [List.nil_append, chL_cons]
    have en : ((numL [] : Nat) : Int) + m = m := by simp [numL]
    have e : chK z k ((numL [] : Nat) + m) = chT z k m := by
      rw [en]
      unfold chK
      rw [if_pos (by omega)]
    rw [e, chT_hit z k m h0 h1, chL_neg z b (by omega)]
    rfl
  | cons y a ih =>
    rw [List.cons_append, chL_cons]
    have e : chK z y ((numL (y :: a) : Nat) + m) = (y, numL a + m) := by
      unfold chK
      rw [if_pos (by omega), chT_skip z y _ (by simp only [numL]; omega)]
      simp only [numL]
      congr 1
      omega
    rw [e]
    simp only [List.cons_append]
    rw [ih]
theorem set_mid (a b : List Tr) (k v : Tr) : (a ++ k :: b).set a.length v = a ++ v :: b := by
  induction a with
  | nil => rfl
  | cons y a ih => simp [ih]
theorem belowL_filter {g : Gr} {l : Int} {ks : List Tr} (h : ∀ k ∈ ks, belowT g l k = (partsT k).filter fun y => decide (0 ≤ y.rule) && decide (leftF g y = l)) : belowL g l ks = (partsL ks).filter fun y => decide (0 ≤ y.rule) && decide (leftF g y = l) := by
  induction ks with
  | nil => rfl
  | cons k ks ih =>
    simp only [belowL, partsL, List.filter_append]
    rw [h k (by simp), ih fun y hy => h y (by simp [hy])]
theorem belowT_filter {g : Gr} {l : Int} (x : Tr) : validT g x = true → belowT g l x = (partsT x).filter fun y => decide (0 ≤ y.rule) && decide (leftF g y = l) := by
  refine Tr.ind (p := fun x => validT g x = true → belowT g l x = (partsT x).filter fun y => decide (0 ≤ y.rule) && decide (leftF g y = l)) (fun x ih => ?_) x
  intro hv
  have hk := belowL_filter (g := g) (l := l) (ks := x.kids) fun k hk => ih k hk (valid_kids hv k hk)
  rw [belowT_eq, partsT_eq, List.filter_cons]
  rcases valid_rule hv with ⟨h1, h2⟩ | ⟨h1, h2, h3⟩
  · rw [if_pos (by omega), if_neg (by simp; omega), h2]
    rfl
  · rw [if_neg (by omega), hk]
    by_cases e : leftF g x = l
    · rw [if_pos e, if_pos (by simp [h2, e])]
      rfl
    · rw [if_neg e, if_neg (by simp [e])]
      rfl
/-- what is done in one kid -/
theorem rsL_kid {g : Gr} {x k : Tr} {a b : List Tr} (hx : x.kids = a ++ k :: b) : ∀ (ps : List Tr) (m : Nat), m + ps.length ≤ numT k → rsL g x (1 + numL a + m) ps = (rsL g k m ps).map fun v => ⟨x.rule, x.term, x.kids.set a.length v⟩
  | [], m, _ => rfl
  | p :: ps, m, h => by
    rw [List.length_cons] at h
    have ih := rsL_kid (g := g) hx ps (m + 1) (by omega)
    simp only [rsL, List.map_append]
    rw [show 1 + numL a + m + 1 = 1 + numL a + (m + 1) by omega, ih]
    congr 1
    unfold rsAt
    split
    · rfl
    · rw [List.map_map]
      refine List.map_congr_left fun y _ => ?_
      simp only [Function.comp]
      rw [chT_eq, if_neg (by omega)]
      have e : (((1 + numL a + m : Nat) : Int) - 1) = (numL a : Int) + (m : Int) := by omega
      simp only [e]
      rw [hx, chL_at y k a b (by omega) (by omega), set_mid]
theorem rs_eq {g : Gr} (hck : ckF g = 0) (x : Tr) : validT g x = true → szT x ≤ 60 → rsF g x = smT g x := by
  refine Tr.ind (p := fun x => validT g x = true → szT x ≤ 60 → rsF g x = smT g x) (fun x ih => ?_) x
  intro hv hs
  have htc : tcF g x = 0 := by
    unfold tcF
    rw [if_neg (by simpa using hck), if_neg (by omega), if_pos hv]
  rcases valid_rule hv with ⟨h1, h2⟩ | ⟨h1, h2, h3⟩
  · rw [smT_eq, if_pos (by omega), rsF, partsT_eq, h2]
    simp [rsL, rsAt, partsL, h1]
  · have hsz := szT_eq x
    rw [if_neg h1] at hsz
    rw [smT_eq, if_neg (by omega), rsF, partsT_eq, rsL]
    congr 1
    · rw [rsAt, if_neg (by omega), belowL_filter fun k hk => belowT_filter k (valid_kids hv k hk)]
      have : (fun y => (chT y x ((0 : Nat) : Int)).1) = fun y => y := by
        funext y
        rw [chT_eq]
        simp
      rw [this, List.map_id']
      rfl
    · have key : ∀ (b a : List Tr), x.kids = a ++ b → rsL g x (1 + numL a) (partsL b) = (smL g a.length b).map fun p => ⟨x.rule, x.term, x.kids.set p.1 p.2⟩ := by
        intro b
        induction b with
        | nil => intro a _; rfl
        | cons k b ihb =>
          intro a ha
          have hm : k ∈ x.kids := by rw [ha]; simp
          have hk1 : szT k ≤ 60 := by
            have : szL x.kids = szL a + (szT k + szL b) := by rw [ha, szL_append]; rfl
            omega
          have hik := ih k hm (valid_kids hv k hm) hk1
          have h5 := rsL_kid (g := g) ha (partsT k) 0 (by rw [partsT_len]; omega)
          have h6 := ihb (a ++ [k]) (by rw [ha]; simp)
          simp only [partsL, smL, List.map_append, List.map_map]
          rw [rsL_append, partsT_len]
          congr 1
          · rw [Nat.add_zero] at h5
            rw [h5]
            show (rsF g k).map _ = _
            rw [hik]
            rfl
          · rw [numL_append, List.length_append] at h6
            simp only [numL, Nat.add_zero, List.length_cons, List.length_nil, Nat.zero_add] at h6
            rw [Nat.add_assoc]
            exact h6
      have := key x.kids [] rfl
      simpa [numL] using this
end Go.Proofs.Ytniobbepliknmaa.V
/- The text of parlance/parlref5.Least as a statement (slots: 0 g, 1 t, 2 fails, 3 g, 4 t, 5 fails, 7 _, 8 v); no condition. -/
namespace Go.Proofs.Ytniobbepliknmaa.V
open Go
def S73_1 : Stmt :=
  Stmt.seq
  (Stmt.region [SOper.mk (some 14) none (SOp.ibin BinOp.lss (Operand.tmp 13) (Operand.tmp 12))]
    [2, 3, 4, 6, 11, 12, 13, 14])
  (Stmt.seq (Stmt.cond (Operand.tmp 14) Stmt.skip (Stmt.exit 0))
    (Stmt.seq
      (Stmt.block 1
        (Stmt.seq
          (Stmt.region
            [SOper.mk (some 15) none (SOp.idx 3 (Operand.tmp 11) (Operand.tmp 13)),
              SOper.mk (some 16) none (SOp.load true 3 (Operand.tmp 15)),
              SOper.mk (some 8) none
                (SOp.alloc true 106
                  (Value.agg (Array.mk [Value.int IntKind.i64 0, Value.int IntKind.i64 0, Value.slice none 0 0]))),
              SOper.mk none none (SOp.store 3 (Operand.tmp 8) (Operand.tmp 16))]
            [2, 3, 4, 6, 8, 11, 12, 13])
          (Stmt.seq
            (Stmt.region
              [SOper.mk (some 17) none (SOp.mv (Operand.tmp 2)),
                SOper.mk (some 18) none (SOp.load true 3 (Operand.tmp 8)),
                SOper.mk (some 19) none (SOp.call (Operand.tmp 17) [Operand.tmp 18])]
              [2, 3, 4, 6, 8, 11, 12, 13, 19])
            (Stmt.cond (Operand.tmp 19)
              (Stmt.seq
                (Stmt.region
                  [SOper.mk (some 20) none (SOp.load true 4 (Operand.tmp 3)),
                    SOper.mk (some 21) none (SOp.load true 3 (Operand.tmp 8)),
                    SOper.mk (some 22) none (SOp.mv (Operand.tmp 2)),
                    SOper.mk (some 23) none
                      (SOp.call (Operand.func 73) [Operand.tmp 20, Operand.tmp 21, Operand.tmp 22]),
                    SOper.mk none none (SOp.store 3 (Operand.tmp 6) (Operand.tmp 23))]
                  [6])
                Stmt.ret)
              Stmt.skip))))
      (Stmt.region
        [SOper.mk (some 24) none (SOp.ibin BinOp.add (Operand.tmp 13) (Operand.const (Value.int IntKind.i64 1))),
          SOper.mk (some 13) none (SOp.mv (Operand.tmp 24))]
        [2, 3, 4, 6, 11, 12, 13])))
def S73_0 : Stmt :=
  Stmt.seq
  (Stmt.region
    [SOper.mk (some 3) none (SOp.box true 57 (Operand.tmp 0)),
      SOper.mk (some 4) none (SOp.box true 106 (Operand.tmp 1)),
      SOper.mk (some 6) none
        (SOp.alloc true 106
          (Value.agg (Array.mk [Value.int IntKind.i64 0, Value.int IntKind.i64 0, Value.slice none 0 0])))]
    [2, 3, 4, 6])
  (Stmt.seq
    (Stmt.seq
      (Stmt.region
        [SOper.mk (some 9) none (SOp.load true 4 (Operand.tmp 3)),
          SOper.mk (some 10) none (SOp.load true 3 (Operand.tmp 4)),
          SOper.mk (some 11) none (SOp.call (Operand.func 71) [Operand.tmp 9, Operand.tmp 10]),
          SOper.mk (some 12) none (SOp.len false (Operand.tmp 11)),
          SOper.mk (some 13) none (SOp.mv (Operand.const (Value.int IntKind.i64 0)))]
        [2, 3, 4, 6, 11, 12, 13])
      (Stmt.block 0 (Stmt.loop S73_1 [6, 13] [2, 3, 4, 11, 12])))
    (Stmt.seq
      (Stmt.region
        [SOper.mk (some 25) none (SOp.load true 3 (Operand.tmp 4)),
          SOper.mk none none (SOp.store 3 (Operand.tmp 6) (Operand.tmp 25))]
        [6])
      Stmt.ret))
def S73 : FnS := ⟨26, [(6, some (true, 3))], S73_0⟩
theorem tr73 : trFn Try.prog 73 [3, 4, 6, 8] [[2, 3, 4, 6], [2, 3, 4, 6, 11, 12, 13], [6, 13], [2, 3, 4, 11, 12], [2, 3, 4, 6, 11, 12, 13, 14], [2, 3, 4, 6, 8, 11, 12, 13], [2, 3, 4, 6, 8, 11, 12, 13, 19], [6], [2, 3, 4, 6, 11, 12, 13], [6]] = some S73 := by kernel_rfl
end Go.Proofs.Ytniobbepliknmaa.V
/- The tree that is left, once more: parlref5.Least; no condition. -/
namespace Go.Proofs.Ytniobbepliknmaa.V
open Go
set_option linter.unusedVariables false
set_option linter.unusedSimpArgs false
attribute [local go_sem] e_seq e_region e_quiet e_join e_loop e_cond e_block e_exit e_ret e_skip e_fin e_kseq e_snrm e_sret e_sex e_bnrm e_bret e_bex e_rnrm e_rret e_res e_condC e_nil e_g e_mv g_mv e_pick g_pick pickC_eq e_ibin g_ibin ibinC_eq e_sbin g_sbin e_beq g_beq beqC_eq e_nilq g_nilq nilqC_sl nilqC_pt nilqC_mp e_un g_un unC_not unC_neg e_conv g_conv convC_eq e_fld g_fld fldC_ref fldC_ptr e_nilCheck g_nilCheck nilCheckC_ref nilCheckC_ptr nilCheckC_fun e_field g_field fieldC_eq e_len g_len lenC_sl lenC_str e_extract g_extract extractC_eq e_mkFunc e_build g_build e_idiv g_idiv idivC_eq e_ishift g_ishift ishiftC_eq e_idx g_idx e_idxA g_idxA e_load g_load e_loadB g_loadB atB_ref atB_v g_mkFunc loadC_ref loadC_ptr loadB_eq e_slc g_slc e_box boxC_loc boxC_esc e_alloc allocC_loc allocC_esc e_buildS e_store storeC_ref storeC_ptr storeB_eq e_append e_appz e_mk mkC_eq e_call callC_eq e_fn g_fn fnC_eq fnV_min' fnV_max' fnV_rune' e_q g_q e_a e_n g_call g_box g_alloc g_buildS g_store g_append g_mk g_a g_n g_dead e_dead e_callK e_drawn e_tree e_finJ e_tk e_tfin e_tno e_nbt_q e_nbt_qn e_nbt_a e_nbt_an e_nbt_fin e_drawnB e_bxb_nil e_bxb e_stB_none e_stB_some boxSt_store bs_mv bs_pick bs_ibin bs_idiv bs_ishift bs_sbin bs_beq bs_nilq bs_un bs_conv bs_box bs_alloc bs_build bs_buildS bs_load bs_fld bs_nilCheck bs_idx bs_idxA bs_field bs_slc bs_len bs_append bs_appz bs_mk bs_call bs_extract bs_mkFunc bs_fn bs_q bs_a bs_n bs_loadB bs_dead isBox_box e_early_nil e_early_t e_early_f e_nob_nil e_nob_none e_nob_some isBox_dead isBox_v isBox_ref e_dnil e_dk e_ek e_finB vcOps_vc1 e_dcons e_tq e_ekt e_tearly e_talt e_dearly look_nil look_c proj_nil proj_c looks_nil looks_c zip_nil zip_c val_tmp val_const val_func slv_v slv_box slv_ref slot_tmp slot_const slot_func slotL_v slotL_box slotL_ref put_some put_none updBox_c boxSet_box gd_eq slotVals_nil slotVals_c slotVals_b boxV_box boxOn_box slotsOn_nil slotsOn_c slotsOn_b resV_one resV_two vals_nil vals_c allOn_nil allOn_c partOn_nil partOn_c partVals_nil partVals_c fits_nil fits_c fillL_nil fillL_c mkv_one mkv_agg cellsV_agg cellsV_int cellsV_bool cellsV_slice cellsV_string cellsV_pointer cellsV_func cellsV_nilf cellsV_map one'_nil one'_c oc_int oc_bool oc_slice oc_string oc_pointer oc_func oc_nilf oc_map setC_eq iv_add iv_sub iv_mul iv_eql iv_neq iv_lss iv_leq iv_gtr iv_geq iok_add iok_sub iok_mul iok_eql iok_neq iok_lss iok_leq iok_gtr iok_geq pickV_bool args0_nil args0_c bnd_none bnd_some imp_bt imp_bf imp_ebt imp_ebf imp_eb1 imp_np imp_pp beq_tt beq_tf beq_ft beq_ff cond_or cond_and e_round e_meet Int.le_refl Int.toNat_zero decide_true decide_false Bool.or_false Bool.false_or Bool.true_or Bool.or_true Bool.and_false Bool.false_and Bool.bne_false Bool.bne_true beq_iff_eq Int.cast_ofNat_Int not_false_eq_true not_true_eq_false false_and and_false false_implies true_implies true_and and_true Bool.true_and Bool.and_true Bool.not_true Bool.not_false forall_const implies_true List.take_zero List.drop_zero List.take_succ_cons List.drop_succ_cons List.take_nil List.drop_nil List.length_cons List.length_nil List.nil_append List.append_nil List.cons_append Int.toNat_natCast decide_eq_true_eq decide_eq_false_iff_not cond_true cond_false and_self List.getElem?_cons_zero List.getElem?_cons_succ List.set_cons_zero List.set_cons_succ Option.some.injEq exists_eq_left' Nat.zero_add Nat.add_zero Nat.mul_one imp_self true_or or_true or_false false_or Bool.or_eq_true Bool.or_eq_false_iff Bool.and_eq_true Bool.and_eq_false_iff Bool.not_eq_true' Bool.not_eq_false'

/-- a condition of trees, as a function value -/
def PredT (Γr : Ctx) (fv : Value) (p : Tr → Bool) : Prop := ∃ f c1 c2, fv = .func (.func f) c1 c2 ∧ ∀ (Γ : Ctx) (A : Option Addr) (c : Nat) (x : Tr), Mem.le (lk Γr) (lk Γ) → SlOk (lk Γ) A c x.kids → numT x ≤ 1048576 → Ret Try.prog f (c1.toList ++ [.agg #[.int .i64 x.rule, .int .i64 x.term, .slice A x.kids.length c]] ++ c2.toList) Γ [] (fun r Γ => Γ = [] ∧ r = .bool (p x))
theorem PredT.mono {Γr Γr' : Ctx} {fv : Value} {p : Tr → Bool} (h : PredT Γr fv p) (hm : Mem.le (lk Γr) (lk Γr')) : PredT Γr' fv p := by
  obtain ⟨f, c1, c2, h1, h2⟩ := h
  exact ⟨f, c1, c2, h1, fun Γ A c x hΓ => h2 Γ A c x (hm.trans hΓ)⟩
/-- the tree that is left when always the first smaller one is taken for which fails is true -/
def leastN (g : Gr) (p : Tr → Bool) : Nat → Tr → Tr
  | 0, x => x
  | n + 1, x => match (smT g x).find? p with
    | some v => leastN g p n v
    | none => x
def leastF (g : Gr) (p : Tr → Bool) (x : Tr) : Tr := leastN g p (numT x) x
theorem leastN_eq {g : Gr} {p : Tr → Bool} : ∀ (n m : Nat) (x : Tr), numT x ≤ n → numT x ≤ m → leastN g p n x = leastN g p m x
  | 0, m, x, h, _ => by have := numT_pos x; omega
  | n + 1, 0, x, _, h => by have := numT_pos x; omega
  | n + 1, m + 1, x, h1, h2 => by
    simp only [leastN]
    cases hf : (smT g x).find? p with
    | none => rfl
    | some v =>
      have := smT_num (g := g) x v (List.mem_of_find?_eq_some hf)
      exact leastN_eq n m v (by omega) (by omega)
theorem leastF_eq (g : Gr) (p : Tr → Bool) (x : Tr) : leastF g p x = match (smT g x).find? p with | some v => leastF g p v | none => x := by
  unfold leastF
  have h1 := numT_pos x
  obtain ⟨n, hn⟩ : ∃ n, numT x = n + 1 := ⟨numT x - 1, by omega⟩
  rw [hn]
  simp only [leastN]
  cases hf : (smT g x).find? p with
  | none => rfl
  | some v =>
    have := smT_num (g := g) x v (List.mem_of_find?_eq_some hf)
    exact leastN_eq _ _ v (by omega) (Nat.le_refl _)
theorem find_take {α : Type} {p : α → Bool} {xs : List α} {k : Nat} (hk : k < xs.length) (h : ∀ y ∈ xs.take k, p y = false) (hp : p xs[k] = true) : xs.find? p = some xs[k] := by
  have e : xs = xs.take k ++ xs[k] :: xs.drop (k + 1) := by rw [← List.drop_eq_getElem_cons hk, List.take_append_drop]
  have h2 : (xs.take k).find? p = none := List.find?_eq_none.2 fun y hy => by simp [h y hy]
  conv => lhs; rw [e]
  rw [List.find?_append, h2, List.find?_cons_of_pos hp]
  rfl
theorem numL_valid {g : Gr} {ks : List Tr} (h : ∀ k ∈ ks, numT k = szT k) : numL ks = szL ks := by
  induction ks with
  | nil => rfl
  | cons k ks ih => simp only [numL, szL, h k (by simp), ih fun y hy => h y (by simp [hy])]
theorem num_valid {g : Gr} (x : Tr) : validT g x = true → numT x = szT x := by
  refine Tr.ind (p := fun x => validT g x = true → numT x = szT x) (fun x ih => ?_) x
  intro hv
  rw [numT_eq, szT_eq]
  rcases valid_rule hv with ⟨h1, h2⟩ | ⟨h1, _⟩
  · rw [if_pos h1, h2]; rfl
  · rw [if_neg h1, numL_valid (g := g) fun k hk => ih k hk (valid_kids hv k hk)]
theorem symF_non {g : Gr} {x : Tr} (hv : validT g x = true) (h : x.rule ≠ -1) : symF g x = (⟨false, leftF g x⟩, true) := by
  rcases valid_rule hv with ⟨h1, _⟩ | ⟨_, h2, h3⟩
  · exact absurd h1 h
  · have h4 : (symF g x).2 = true := by rw [validT_eq] at hv; simp only [Bool.and_eq_true] at hv; exact hv.1
    unfold symF at h4 ⊢
    rw [if_neg h, if_neg (by omega)] at h4 ⊢
    simp only at h4
    rw [h4]
    rfl
theorem valid_sm {g : Gr} (x : Tr) : validT g x = true → ∀ v ∈ smT g x, validT g v = true ∧ symF g v = symF g x := by
  refine Tr.ind (p := fun x => validT g x = true → ∀ v ∈ smT g x, validT g v = true ∧ symF g v = symF g x) (fun x ih => ?_) x
  intro hv v hm
  rw [smT_eq] at hm
  split at hm
  · simp at hm
  rename_i hbad
  have hr : x.rule ≠ -1 := by omega
  have hsx := symF_non hv hr
  rcases List.mem_append.1 hm with hm | hm
  · obtain ⟨k, hk, hy⟩ := belowL_mem.1 hm
    have hkv := valid_kids hv k hk
    rw [belowT_filter k hkv, List.mem_filter] at hy
    simp only [Bool.and_eq_true, decide_eq_true_eq] at hy
    have hvv := parts_valid k hkv v hy.1
    refine ⟨hvv, ?_⟩
    rw [symF_non hvv (by omega), hsx, hy.2.2]
  · obtain ⟨⟨i, w⟩, hp, rfl⟩ := List.mem_map.1 hm
    obtain ⟨j, rfl, k, h2, h3⟩ := smL_mem hp
    have hk := List.mem_of_getElem? h2
    obtain ⟨hw1, hw2⟩ := ih k hk (valid_kids hv k hk) w h3
    have hjl := (List.getElem?_eq_some_iff.1 h2).1
    simp only [Nat.zero_add]
    have hsv : symF g ⟨x.rule, x.term, x.kids.set j w⟩ = symF g x := by
      unfold symF
      simp only [Tr.rule, Tr.term, Tr.kids, List.length_set]
      rfl
    refine ⟨?_, hsv⟩
    rw [validT_eq] at hv ⊢
    rw [hsv]
    simp only [Bool.and_eq_true, Bool.or_eq_true, decide_eq_true_eq] at hv ⊢
    refine ⟨hv.1, .inr ?_⟩
    have hvl := hv.2.resolve_left hr
    show validL g (x.kids.set j w) (g.rs.getD x.rule.toNat ⟨0, []⟩).r = true
    generalize (g.rs.getD x.rule.toNat ⟨0, []⟩).r = rr at *
    have hll : x.kids.length = rr.length := by
      by_cases e : x.kids.length = rr.length
      · exact e
      · rw [validL_len e] at hvl; cases hvl
    refine (validL_iff (by simpa using hll)).2 fun a ha hb => ?_
    have h0 := (validL_iff hll).1 hvl a (by simpa using ha) hb
    rw [List.getElem_set]
    split
    · rename_i e
      subst e
      have hkj : x.kids[j] = k := by
        rw [List.getElem?_eq_getElem hjl] at h2
        cases h2; rfl
      rw [hkj] at h0
      rw [hw2]
      exact ⟨h0.1, h0.2.1, hw1⟩
    · exact h0
theorem sm_fit {g : Gr} {x v : Tr} (hv : validT g x = true) (hs : szT x ≤ 60) (hm : v ∈ smT g x) : validT g v = true ∧ szT v ≤ 60 ∧ numT v < numT x := by
  have h1 := (valid_sm x hv v hm).1
  have h2 := smT_num x v hm
  have h3 := num_valid x hv
  have h4 := szT_le v
  exact ⟨h1, by omega, h2⟩
theorem ref_least {g : Gr} {p : Tr → Bool} (hck : ckF g = 0) {B : Option Addr} {d : Nat} {fv : Value} : ∀ (N : Nat) (x : Tr) {Γr : Ctx} {A : Option Addr} {c : Nat}, numT x ≤ N → SlOk (lk Γr) B d g.rs → PredT Γr fv p → SlOk (lk Γr) A c x.kids → validT g x = true → szT x ≤ 60 →
    Ret Try.prog 73 [.agg #[.int .i64 g.ts, .int .i64 g.ns, .int .i64 g.st, .slice B g.rs.length d], .agg #[.int .i64 x.rule, .int .i64 x.term, .slice A x.kids.length c], fv] Γr []
      (fun v Γ => ∃ gg A' c', Γ = [gg] ∧ v = .agg #[.int .i64 (leastF g p x).rule, .int .i64 (leastF g p x).term, .slice A' (leastF g p x).kids.length c'] ∧ SlOk (lk (gg :: Γr)) A' c' (leastF g p x).kids)
  | 0, x, _, _, _, h, _, _, _, _, _ => by have := numT_pos x; omega
  | N + 1, x, Γr, A, c, hN, hg, hp, hx, hv, hs => by
    generalize hR : (fun (v : Value) (Γ : Ctx) => ∃ gg A' c', _) = R
    refine ret_of_vc tr73 (Nat.le_of_ble_eq_true rfl) ?_
    have hnv := num_valid x hv
    have hp0 := hp
    obtain ⟨f, k1, k2, rfl, hp⟩ := hp
    simp -implicitDefEqProofs only [S73, S73_0, go_sem, Nat.reduceBEq, Nat.reduceAdd, Nat.reduceSub, Nat.reduceMul, Nat.reduceLeDiff, reduceCtorEq, ↓reduceIte, Int.reduceLT, Int.reduceLE, Int.reduceEq, Int.reduceNe]
    intro b1 b2 b3
    refine CallVC.pure (ref_smaller hg x hx (by omega) hv) (by simp) ?_
    rintro v1 Γ1 ⟨go1, gl1, rfl, hB1⟩
    rw [rs_eq hck x hv hs] at hB1
    have hsl := smT_len (g := g) x
    have hmul : numT x * numT x ≤ 60 * 60 := Nat.mul_le_mul (by omega) (by omega)
    have hfit : ∀ w ∈ smT g x, validT g w = true ∧ szT w ≤ 60 ∧ numT w < numT x := fun w hw => sm_fit hv hs hw
    have hlf := leastF_eq g p x
    generalize smT g x = ws at *
    obtain ⟨A1, c1, rfl, hs1⟩ := hB1.slok (L' := lk ([go1, gl1] ++ Γr)) (lk_sub (by simp)) (lk_sub fun y hy => by simp at hy ⊢; rcases hy with h | h <;> simp [h]) (by omega)
    simp -implicitDefEqProofs only [go_sem, Nat.reduceBEq, Nat.reduceAdd, Nat.reduceSub, Nat.reduceMul, Nat.reduceLeDiff, reduceCtorEq, ↓reduceIte, Int.reduceLT, Int.reduceLE, Int.reduceEq, Int.reduceNe]
    refine s_loop (fun f vs Γ => ∃ gp, Γ = [gp] ∧ SlOk (lk (gp :: Γr)) A1 c1 ws ∧ ∃ (k : Nat), vs = [.box b3 106 [.int .i64 0, .int .i64 0, .slice none 0 0], .v true (.int .i64 k)] ∧ k + f = ws.length ∧ ∀ y ∈ ws.take k, p y = false) ws.length
      (Up.one fun gp hgp => ⟨gp, rfl, hs1.mono (lk_ctx hgp), 0, rfl, by omega, by simp⟩) ?_
    clear hs1 hB1
    rintro f2 vs Γ ⟨gp, rfl, hs1, k, rfl, hkf, hall⟩
    simp -implicitDefEqProofs only [S73_1, go_sem, Nat.reduceBEq, Nat.reduceAdd, Nat.reduceSub, Nat.reduceMul, Nat.reduceLeDiff, reduceCtorEq, ↓reduceIte, Int.reduceLT, Int.reduceLE, Int.reduceEq, Int.reduceNe]
    refine ⟨fun hlt => ?_, fun hge => ?_⟩
    · have hk : k < ws.length := by omega
      have hm := List.getElem_mem hk
      obtain ⟨hf1, hf2, hf3⟩ := hfit _ hm
      have htk : ws.take (k + 1) = ws.take k ++ [ws[k]] := List.take_succ_eq_append_getElem hk
      have hfind := fun h => find_take hk hall h
      obtain ⟨b5, o5, hA5, A6, c6, hs6, hc6⟩ := hs1.tr hk
      generalize ws[k] = w at *
      refine s_idx hA5 (by omega) (by omega) ?_
      simp -implicitDefEqProofs only [go_sem, Nat.reduceBEq, Nat.reduceAdd, Nat.reduceSub, Nat.reduceMul, Nat.reduceLeDiff, reduceCtorEq, ↓reduceIte, Int.reduceLT, Int.reduceLE, Int.reduceEq, Int.reduceNe]
      refine s_ld0 (hc6 _ (lk_sub fun y hy => by simp at hy ⊢; rcases hy with h | h <;> simp [h])) (by simp) (by simp) ?_
      simp -implicitDefEqProofs only [go_sem, Nat.reduceBEq, Nat.reduceAdd, Nat.reduceSub, Nat.reduceMul, Nat.reduceLeDiff, reduceCtorEq, ↓reduceIte, Int.reduceLT, Int.reduceLE, Int.reduceEq, Int.reduceNe]
      intro b6
      refine CallVC.read (hp _ _ _ w (lk_sub fun y hy => by simp [hy]) hs6 (by omega)) ?_
      rintro v Γ' ⟨rfl, rfl⟩
      simp -implicitDefEqProofs only [go_sem, Nat.reduceBEq, Nat.reduceAdd, Nat.reduceSub, Nat.reduceMul, Nat.reduceLeDiff, reduceCtorEq, ↓reduceIte, Int.reduceLT, Int.reduceLE, Int.reduceEq, Int.reduceNe]
      refine ⟨fun ht => ?_, fun hf => ?_⟩
      · refine CallVC.read (ref_least hck N w (by omega) (hg.mono (lk_sub fun y hy => by simp [hy])) (hp0.mono (lk_sub fun y hy => by simp [hy])) hs6 hf1 hf2) ?_
        rintro v Γ' ⟨gg, A', c', rfl, rfl, hs'⟩
        simp -implicitDefEqProofs only [go_sem, Nat.reduceBEq, Nat.reduceAdd, Nat.reduceSub, Nat.reduceMul, Nat.reduceLeDiff, reduceCtorEq, ↓reduceIte, Int.reduceLT, Int.reduceLE, Int.reduceEq, Int.reduceNe]
        refine Up.one fun gq hgq => ?_
        subst hR
        rw [hlf, hfind ht]
        exact ⟨gq, A', c', rfl, rfl, hs'.mono (lk_ctx (Γ := [gg, gp]) hgq)⟩
      · simp (disch := omega) only [wrap_id]
        exact ⟨f2 - 1, by omega, Up.here ⟨gp, rfl, hs1, k + 1, rfl, by omega, fun y hy => by
          rw [htk] at hy
          rcases List.mem_append.1 hy with hy | hy
          · exact hall y hy
          · simp at hy; subst hy; exact hf⟩⟩
    · have hk : k = ws.length := by omega
      rw [hk, List.take_length] at hall
      have hfn : ws.find? p = none := List.find?_eq_none.2 fun y hy => by simp [hall y hy]
      refine Up.here ?_
      subst hR
      rw [hlf, hfn]
      exact ⟨gp, A, c, rfl, rfl, hx.mono (lk_sub fun y hy => by simp [hy])⟩
end Go.Proofs.Ytniobbepliknmaa.V
/- The text of parlance/shrink.Tree as a statement (slots: 0 g, 1 t, 2 fails, 3 g, 4 t, 5 fails, 8 e, 9 again, 10 _, 11 v); no condition. -/
namespace Go.Proofs.Ytniobbepliknmaa.V
open Go
def S68_1 : Stmt :=
  Stmt.seq
  (Stmt.region [SOper.mk (some 37) none (SOp.ibin BinOp.lss (Operand.tmp 36) (Operand.tmp 35))]
    [2, 3, 4, 6, 9, 34, 35, 36, 37])
  (Stmt.seq (Stmt.cond (Operand.tmp 37) Stmt.skip (Stmt.exit 2))
    (Stmt.seq
      (Stmt.block 3
        (Stmt.seq
          (Stmt.region
            [SOper.mk (some 38) none (SOp.idx 3 (Operand.tmp 34) (Operand.tmp 36)),
              SOper.mk (some 39) none (SOp.load true 3 (Operand.tmp 38)),
              SOper.mk (some 11) none
                (SOp.alloc true 106
                  (Value.agg (Array.mk [Value.int IntKind.i64 0, Value.int IntKind.i64 0, Value.slice none 0 0]))),
              SOper.mk none none (SOp.store 3 (Operand.tmp 11) (Operand.tmp 39))]
            [2, 3, 4, 6, 9, 11, 34, 35, 36])
          (Stmt.seq
            (Stmt.region
              [SOper.mk (some 40) none (SOp.mv (Operand.tmp 2)),
                SOper.mk (some 41) none (SOp.load true 3 (Operand.tmp 11)),
                SOper.mk (some 42) none (SOp.call (Operand.func 138) [Operand.tmp 41]),
                SOper.mk (some 43) none (SOp.call (Operand.tmp 40) [Operand.tmp 42])]
              [2, 3, 4, 6, 9, 11, 34, 35, 36, 43])
            (Stmt.cond (Operand.tmp 43)
              (Stmt.seq
                (Stmt.region
                  [SOper.mk (some 44) none (SOp.load true 3 (Operand.tmp 11)),
                    SOper.mk none none (SOp.store 3 (Operand.tmp 4) (Operand.tmp 44)),
                    SOper.mk (some 9) none (SOp.mv (Operand.const (Value.bool true)))]
                  [2, 3, 4, 6, 9])
                (Stmt.exit 2))
              Stmt.skip))))
      (Stmt.region
        [SOper.mk (some 45) none (SOp.ibin BinOp.add (Operand.tmp 36) (Operand.const (Value.int IntKind.i64 1))),
          SOper.mk (some 36) none (SOp.mv (Operand.tmp 45))]
        [2, 3, 4, 6, 9, 34, 35, 36])))
def S68_2 : Stmt :=
  Stmt.seq
  (Stmt.seq (Stmt.region [SOper.mk (some 31) none (SOp.mv (Operand.tmp 9))] [2, 3, 4, 6, 31])
    (Stmt.cond (Operand.tmp 31) Stmt.skip (Stmt.exit 0)))
  (Stmt.block 1
    (Stmt.seq (Stmt.region [SOper.mk (some 9) none (SOp.mv (Operand.const (Value.bool false)))] [2, 3, 4, 6, 9])
      (Stmt.seq
        (Stmt.region
          [SOper.mk (some 32) none (SOp.load true 4 (Operand.tmp 3)),
            SOper.mk (some 33) none (SOp.load true 3 (Operand.tmp 4)),
            SOper.mk (some 34) none (SOp.call (Operand.func 65) [Operand.tmp 32, Operand.tmp 33]),
            SOper.mk (some 35) none (SOp.len false (Operand.tmp 34)),
            SOper.mk (some 36) none (SOp.mv (Operand.const (Value.int IntKind.i64 0)))]
          [2, 3, 4, 6, 9, 34, 35, 36])
        (Stmt.block 2 (Stmt.loop S68_1 [4, 9, 36] [2, 3, 6, 34, 35])))))
def S68_0 : Stmt :=
  Stmt.seq
  (Stmt.region
    [SOper.mk (some 3) none (SOp.box true 57 (Operand.tmp 0)),
      SOper.mk (some 4) none (SOp.box true 106 (Operand.tmp 1)),
      SOper.mk (some 6) none
        (SOp.alloc true 106
          (Value.agg (Array.mk [Value.int IntKind.i64 0, Value.int IntKind.i64 0, Value.slice none 0 0]))),
      SOper.mk (some 7) none (SOp.mv (Operand.const (Value.int IntKind.i64 0)))]
    [2, 3, 4, 6])
  (Stmt.seq
    (Stmt.seq
      (Stmt.region
        [SOper.mk (some 12) none (SOp.load true 4 (Operand.tmp 3)),
          SOper.mk (some 13) none (SOp.load true 3 (Operand.tmp 4)),
          SOper.mk (some 14) none (SOp.call (Operand.func 69) [Operand.tmp 12, Operand.tmp 13]),
          SOper.mk (some 8) none (SOp.mv (Operand.tmp 14))]
        [2, 3, 4, 6, 8])
      (Stmt.seq
        (Stmt.region
          [SOper.mk (some 15) none (SOp.mv (Operand.tmp 8)),
            SOper.mk (some 16) none (SOp.ibin BinOp.neq (Operand.tmp 15) (Operand.const (Value.int IntKind.i64 0)))]
          [2, 3, 4, 6, 8, 16])
        (Stmt.cond (Operand.tmp 16)
          (Stmt.seq
            (Stmt.region
              [SOper.mk (some 17) none
                  (SOp.build 106 [Value.int IntKind.i64 0, Value.int IntKind.i64 0, Value.slice none 0 0] []),
                SOper.mk (some 18) none (SOp.mv (Operand.tmp 8)),
                SOper.mk none none (SOp.store 3 (Operand.tmp 6) (Operand.tmp 17)),
                SOper.mk (some 7) none (SOp.mv (Operand.tmp 18))]
              [6, 7])
            Stmt.ret)
          Stmt.skip)))
    (Stmt.seq
      (Stmt.seq
        (Stmt.region
          [SOper.mk (some 19) none (SOp.load true 3 (Operand.tmp 4)),
            SOper.mk (some 20) none (SOp.call (Operand.func 67) [Operand.tmp 19]),
            SOper.mk (some 21) none (SOp.ibin BinOp.gtr (Operand.tmp 20) (Operand.const (Value.int IntKind.i64 60)))]
          [2, 3, 4, 6, 21])
        (Stmt.cond (Operand.tmp 21)
          (Stmt.seq
            (Stmt.region
              [SOper.mk (some 22) none
                  (SOp.build 106 [Value.int IntKind.i64 0, Value.int IntKind.i64 0, Value.slice none 0 0] []),
                SOper.mk none none (SOp.store 3 (Operand.tmp 6) (Operand.tmp 22)),
                SOper.mk (some 7) none (SOp.mv (Operand.const (Value.int IntKind.i64 2)))]
              [6, 7])
            Stmt.ret)
          Stmt.skip))
      (Stmt.seq
        (Stmt.seq
          (Stmt.region
            [SOper.mk (some 23) none (SOp.mv (Operand.tmp 2)),
              SOper.mk (some 24) none (SOp.load true 3 (Operand.tmp 4)),
              SOper.mk (some 25) none (SOp.call (Operand.func 138) [Operand.tmp 24]),
              SOper.mk (some 26) none (SOp.call (Operand.tmp 23) [Operand.tmp 25]),
              SOper.mk (some 27) none (SOp.un UnOp.not (Operand.tmp 26))]
            [2, 3, 4, 6, 27])
          (Stmt.cond (Operand.tmp 27)
            (Stmt.seq
              (Stmt.region
                [SOper.mk (some 28) none
                    (SOp.build 106 [Value.int IntKind.i64 0, Value.int IntKind.i64 0, Value.slice none 0 0] []),
                  SOper.mk none none (SOp.store 3 (Operand.tmp 6) (Operand.tmp 28)),
                  SOper.mk (some 7) none (SOp.mv (Operand.const (Value.int IntKind.i64 7)))]
                [6, 7])
              Stmt.ret)
            Stmt.skip))
        (Stmt.seq
          (Stmt.region
            [SOper.mk (some 29) none (SOp.load true 3 (Operand.tmp 4)),
              SOper.mk (some 30) none (SOp.call (Operand.func 138) [Operand.tmp 29]),
              SOper.mk none none (SOp.store 3 (Operand.tmp 4) (Operand.tmp 30))]
            [2, 3, 4, 6])
          (Stmt.seq
            (Stmt.seq (Stmt.region [SOper.mk (some 9) none (SOp.mv (Operand.const (Value.bool true)))] [2, 3, 4, 6, 9])
              (Stmt.block 0 (Stmt.loop S68_2 [4, 9] [2, 3, 6])))
            (Stmt.seq
              (Stmt.region
                [SOper.mk (some 46) none (SOp.load true 3 (Operand.tmp 4)),
                  SOper.mk none none (SOp.store 3 (Operand.tmp 6) (Operand.tmp 46)),
                  SOper.mk (some 7) none (SOp.mv (Operand.const (Value.int IntKind.i64 0)))]
                [6, 7])
              Stmt.ret))))))
def S68 : FnS := ⟨47, [(6, some (true, 3)), (7, none)], S68_0⟩
theorem tr68 : trFn Try.prog 68 [3, 4, 6, 11] [[2, 3, 4, 6], [2, 3, 4, 6, 8], [2, 3, 4, 6, 8, 16], [6, 7], [2, 3, 4, 6, 21], [6, 7], [2, 3, 4, 6, 27], [6, 7], [2, 3, 4, 6], [2, 3, 4, 6, 9], [4, 9], [2, 3, 6], [2, 3, 4, 6, 31], [2, 3, 4, 6, 9], [2, 3, 4, 6, 9, 34, 35, 36], [4, 9, 36], [2, 3, 6, 34, 35], [2, 3, 4, 6, 9, 34, 35, 36, 37], [2, 3, 4, 6, 9, 11, 34, 35, 36], [2, 3, 4, 6, 9, 11, 34, 35, 36, 43], [2, 3, 4, 6, 9], [2, 3, 4, 6, 9, 34, 35, 36], [6, 7]] = some S68 := by kernel_rfl
end Go.Proofs.Ytniobbepliknmaa.V
