/- The text of parlance/parllaw5.GuessRules as a statement (slots: 0 terms, 1 nons, 2 terms, 3 nons, 5 l, 6 e, 7 l, 8 e, 9 n, 10 code, 11 i, 12 r); no condition. -/
import Derived.Test.YtniobbepliknmaaVh
import Derived.Test.YtniobbepliknmaaProg
namespace Go.Proofs.Ytniobbepliknmaa.V
open Go
def S5_1 : Stmt :=
  Stmt.seq
  (Stmt.region [SOper.mk (some 81) none (SOp.ibin BinOp.lss (Operand.tmp 80) (Operand.tmp 79))] [7, 10, 78, 79, 80, 81])
  (Stmt.seq (Stmt.cond (Operand.tmp 81) Stmt.skip (Stmt.exit 0))
    (Stmt.seq
      (Stmt.block 1
        (Stmt.seq
          (Stmt.region
            [SOper.mk (some 82) none (SOp.mv (Operand.tmp 80)),
              SOper.mk (some 83) none (SOp.idx 2 (Operand.tmp 78) (Operand.tmp 80)),
              SOper.mk (some 84) none (SOp.load true 2 (Operand.tmp 83)),
              SOper.mk (some 12) none
                (SOp.alloc true 37 (Value.agg (Array.mk [Value.int IntKind.i64 0, Value.slice none 0 0]))),
              SOper.mk (some 11) none (SOp.mv (Operand.tmp 82)),
              SOper.mk none none (SOp.store 2 (Operand.tmp 12) (Operand.tmp 84))]
            [7, 10, 11, 12, 78, 79, 80])
          (Stmt.seq
            (Stmt.drawn
              [(false, SOper.mk (some 85) none (SOp.fld 1 (Operand.tmp 12))),
                (false, SOper.mk (some 86) none (SOp.load false 1 (Operand.tmp 85))),
                (false, SOper.mk (some 87) none (SOp.len false (Operand.tmp 86))),
                (false,
                  SOper.mk (some 88) none
                    (SOp.ibin BinOp.gtr (Operand.tmp 87) (Operand.const (Value.int IntKind.i64 2)))),
                (false, SOper.mk (some 89) none (SOp.mv (Operand.tmp 88))),
                (false, SOper.mk (some 90) (some (89, false)) (SOp.mv (Operand.tmp 11))),
                (false,
                  SOper.mk (some 91) (some (89, false))
                    (SOp.ibin BinOp.gtr (Operand.tmp 90) (Operand.const (Value.int IntKind.i64 0)))),
                (false, SOper.mk (some 92) (some (89, false)) (SOp.mv (Operand.tmp 91))),
                (false, SOper.mk (some 93) (some (92, true)) (SOp.mv (Operand.tmp 10))),
                (false, SOper.mk (some 94) (some (92, true)) (SOp.mv (Operand.tmp 7))),
                (false, SOper.mk (some 95) (some (92, true)) (SOp.mv (Operand.tmp 11))),
                (false,
                  SOper.mk (some 96) (some (92, true))
                    (SOp.ibin BinOp.sub (Operand.tmp 95) (Operand.const (Value.int IntKind.i64 1)))),
                (false, SOper.mk (some 97) (some (92, true)) (SOp.idx 2 (Operand.tmp 94) (Operand.tmp 96))),
                (false, SOper.mk (some 98) (some (92, true)) (SOp.load true 2 (Operand.tmp 97))),
                (false, SOper.mk (some 100) (some (92, true)) (SOp.mv (Operand.tmp 10))),
                (true, SOper.mk (some 101) (some (92, true)) (SOp.load true 2 (Operand.tmp 12))),
                (false, SOper.mk (some 99) (some (92, true)) (SOp.call (Operand.tmp 93) [Operand.tmp 98])),
                (false, SOper.mk (some 102) (some (92, true)) (SOp.call (Operand.tmp 100) [Operand.tmp 101])),
                (false,
                  SOper.mk (some 103) (some (92, true)) (SOp.call (Operand.func 26) [Operand.tmp 99, Operand.tmp 102])),
                (false,
                  SOper.mk (some 104) (some (92, true))
                    (SOp.ibin BinOp.geq (Operand.tmp 103) (Operand.const (Value.int IntKind.i64 0)))),
                (false,
                  SOper.mk (some 105) (some (89, false))
                    (SOp.pick (Operand.tmp 92) (Operand.tmp 104) (Operand.const (Value.bool false)))),
                (false,
                  SOper.mk (some 106) none
                    (SOp.pick (Operand.tmp 89) (Operand.const (Value.bool true)) (Operand.tmp 105)))]
              [7, 10, 78, 79, 80, 106])
            (Stmt.cond (Operand.tmp 106)
              (Stmt.seq (Stmt.region [SOper.mk (some 4) none (SOp.mv (Operand.const (Value.bool false)))] [4]) Stmt.ret)
              Stmt.skip))))
      (Stmt.region
        [SOper.mk (some 107) none (SOp.ibin BinOp.add (Operand.tmp 80) (Operand.const (Value.int IntKind.i64 1))),
          SOper.mk (some 80) none (SOp.mv (Operand.tmp 107))]
        [7, 10, 78, 79, 80])))
def S5_0 : Stmt :=
  Stmt.seq
  (Stmt.region
    [SOper.mk (some 2) none (SOp.box false 3 (Operand.tmp 0)),
      SOper.mk (some 4) none (SOp.mv (Operand.const (Value.bool false)))]
    [1, 2])
  (Stmt.seq
    (Stmt.seq
      (Stmt.region
        [SOper.mk (some 14) none
            (SOp.call (Operand.func 24)
              [Operand.const (Value.int IntKind.i64 1), Operand.const (Value.int IntKind.i64 1)]),
          SOper.mk (some 13) none (SOp.mv (Operand.tmp 14)), SOper.mk (some 15) none (SOp.extract 0 (Operand.tmp 13)),
          SOper.mk (some 16) none (SOp.extract 1 (Operand.tmp 13)), SOper.mk (some 5) none (SOp.mv (Operand.tmp 15)),
          SOper.mk (some 6) none (SOp.mv (Operand.tmp 16))]
        [1, 2, 5, 6])
      (Stmt.seq
        (Stmt.region
          [SOper.mk (some 17) none (SOp.mv (Operand.tmp 6)),
            SOper.mk (some 18) none (SOp.ibin BinOp.neq (Operand.tmp 17) (Operand.const (Value.int IntKind.i64 0))),
            SOper.mk (some 19) none (SOp.mv (Operand.tmp 18)),
            SOper.mk (some 20) (some (19, false)) (SOp.mv (Operand.tmp 5)),
            SOper.mk (some 21) (some (19, false)) (SOp.len false (Operand.tmp 20)),
            SOper.mk (some 22) (some (19, false))
              (SOp.ibin BinOp.neq (Operand.tmp 21) (Operand.const (Value.int IntKind.i64 7))),
            SOper.mk (some 23) none (SOp.pick (Operand.tmp 19) (Operand.const (Value.bool true)) (Operand.tmp 22)),
            SOper.mk (some 24) none (SOp.mv (Operand.tmp 23)),
            SOper.mk (some 25) (some (24, false)) (SOp.mv (Operand.tmp 5)),
            SOper.mk (some 26) (some (24, false))
              (SOp.idx 2 (Operand.tmp 25) (Operand.const (Value.int IntKind.i64 0))),
            SOper.mk (some 27) (some (24, false)) (SOp.fld 1 (Operand.tmp 26)),
            SOper.mk (some 28) (some (24, false)) (SOp.load false 1 (Operand.tmp 27)),
            SOper.mk (some 29) (some (24, false)) (SOp.len false (Operand.tmp 28)),
            SOper.mk (some 30) (some (24, false))
              (SOp.ibin BinOp.neq (Operand.tmp 29) (Operand.const (Value.int IntKind.i64 0))),
            SOper.mk (some 31) none (SOp.pick (Operand.tmp 24) (Operand.const (Value.bool true)) (Operand.tmp 30))]
          [1, 2, 31])
        (Stmt.cond (Operand.tmp 31)
          (Stmt.seq (Stmt.region [SOper.mk (some 4) none (SOp.mv (Operand.const (Value.bool false)))] [4]) Stmt.ret)
          Stmt.skip)))
    (Stmt.seq
      (Stmt.region
        [SOper.mk (some 33) none (SOp.load false 1 (Operand.tmp 2)), SOper.mk (some 34) none (SOp.mv (Operand.tmp 1)),
          SOper.mk (some 35) none (SOp.call (Operand.func 24) [Operand.tmp 33, Operand.tmp 34]),
          SOper.mk (some 32) none (SOp.mv (Operand.tmp 35)), SOper.mk (some 36) none (SOp.extract 0 (Operand.tmp 32)),
          SOper.mk (some 37) none (SOp.extract 1 (Operand.tmp 32)), SOper.mk (some 7) none (SOp.mv (Operand.tmp 36)),
          SOper.mk (some 8) none (SOp.mv (Operand.tmp 37))]
        [1, 2, 7, 8])
      (Stmt.seq
        (Stmt.seq
          (Stmt.region
            [SOper.mk (some 38) none (SOp.load false 1 (Operand.tmp 2)),
              SOper.mk (some 39) none (SOp.ibin BinOp.lss (Operand.tmp 38) (Operand.const (Value.int IntKind.i64 1))),
              SOper.mk (some 40) none (SOp.mv (Operand.tmp 39)),
              SOper.mk (some 41) (some (40, false)) (SOp.load false 1 (Operand.tmp 2)),
              SOper.mk (some 42) (some (40, false))
                (SOp.ibin BinOp.gtr (Operand.tmp 41) (Operand.const (Value.int IntKind.i64 2))),
              SOper.mk (some 43) none (SOp.pick (Operand.tmp 40) (Operand.const (Value.bool true)) (Operand.tmp 42)),
              SOper.mk (some 44) none (SOp.mv (Operand.tmp 43)),
              SOper.mk (some 45) (some (44, false)) (SOp.mv (Operand.tmp 1)),
              SOper.mk (some 46) (some (44, false))
                (SOp.ibin BinOp.lss (Operand.tmp 45) (Operand.const (Value.int IntKind.i64 1))),
              SOper.mk (some 47) none (SOp.pick (Operand.tmp 44) (Operand.const (Value.bool true)) (Operand.tmp 46)),
              SOper.mk (some 48) none (SOp.mv (Operand.tmp 47)),
              SOper.mk (some 49) (some (48, false)) (SOp.mv (Operand.tmp 1)),
              SOper.mk (some 50) (some (48, false))
                (SOp.ibin BinOp.gtr (Operand.tmp 49) (Operand.const (Value.int IntKind.i64 2))),
              SOper.mk (some 51) none (SOp.pick (Operand.tmp 48) (Operand.const (Value.bool true)) (Operand.tmp 50))]
            [1, 2, 7, 8, 51])
          (Stmt.cond (Operand.tmp 51)
            (Stmt.seq
              (Stmt.region
                [SOper.mk (some 52) none (SOp.mv (Operand.tmp 8)),
                  SOper.mk (some 53) none
                    (SOp.ibin BinOp.eql (Operand.tmp 52) (Operand.const (Value.int IntKind.i64 1))),
                  SOper.mk (some 54) none (SOp.mv (Operand.tmp 53)),
                  SOper.mk (some 55) (some (54, true)) (SOp.mv (Operand.tmp 7)),
                  SOper.mk (some 56) (some (54, true)) (SOp.len false (Operand.tmp 55)),
                  SOper.mk (some 57) (some (54, true))
                    (SOp.ibin BinOp.eql (Operand.tmp 56) (Operand.const (Value.int IntKind.i64 0))),
                  SOper.mk (some 58) none
                    (SOp.pick (Operand.tmp 54) (Operand.tmp 57) (Operand.const (Value.bool false))),
                  SOper.mk (some 4) none (SOp.mv (Operand.tmp 58))]
                [4])
              Stmt.ret)
            Stmt.skip))
        (Stmt.seq
          (Stmt.region
            [SOper.mk (some 59) none (SOp.load false 1 (Operand.tmp 2)),
              SOper.mk (some 60) none (SOp.mv (Operand.tmp 1)),
              SOper.mk (some 61) none (SOp.ibin BinOp.add (Operand.tmp 59) (Operand.tmp 60)),
              SOper.mk (some 9) none (SOp.mv (Operand.tmp 61))]
            [1, 2, 7, 8, 9])
          (Stmt.seq
            (Stmt.seq
              (Stmt.region
                [SOper.mk (some 62) none (SOp.mv (Operand.tmp 8)),
                  SOper.mk (some 63) none
                    (SOp.ibin BinOp.neq (Operand.tmp 62) (Operand.const (Value.int IntKind.i64 0))),
                  SOper.mk (some 64) none (SOp.mv (Operand.tmp 63)),
                  SOper.mk (some 65) (some (64, false)) (SOp.mv (Operand.tmp 7)),
                  SOper.mk (some 66) (some (64, false)) (SOp.len false (Operand.tmp 65)),
                  SOper.mk (some 67) (some (64, false)) (SOp.mv (Operand.tmp 1)),
                  SOper.mk (some 68) (some (64, false)) (SOp.mv (Operand.tmp 9)),
                  SOper.mk (some 69) (some (64, false))
                    (SOp.ibin BinOp.add (Operand.const (Value.int IntKind.i64 1)) (Operand.tmp 68)),
                  SOper.mk (some 70) (some (64, false)) (SOp.mv (Operand.tmp 9)),
                  SOper.mk (some 71) (some (64, false)) (SOp.mv (Operand.tmp 9)),
                  SOper.mk (some 72) (some (64, false)) (SOp.ibin BinOp.mul (Operand.tmp 70) (Operand.tmp 71)),
                  SOper.mk (some 73) (some (64, false)) (SOp.ibin BinOp.add (Operand.tmp 69) (Operand.tmp 72)),
                  SOper.mk (some 74) (some (64, false)) (SOp.ibin BinOp.mul (Operand.tmp 67) (Operand.tmp 73)),
                  SOper.mk (some 75) (some (64, false)) (SOp.ibin BinOp.neq (Operand.tmp 66) (Operand.tmp 74)),
                  SOper.mk (some 76) none
                    (SOp.pick (Operand.tmp 64) (Operand.const (Value.bool true)) (Operand.tmp 75))]
                [2, 7, 76])
              (Stmt.cond (Operand.tmp 76)
                (Stmt.seq (Stmt.region [SOper.mk (some 4) none (SOp.mv (Operand.const (Value.bool false)))] [4])
                  Stmt.ret)
                Stmt.skip))
            (Stmt.seq
              (Stmt.region
                [SOper.mk (some 77) none (SOp.mkFunc 25 [Operand.tmp 2]),
                  SOper.mk (some 10) none (SOp.mv (Operand.tmp 77))]
                [7, 10])
              (Stmt.seq
                (Stmt.seq
                  (Stmt.region
                    [SOper.mk (some 78) none (SOp.mv (Operand.tmp 7)),
                      SOper.mk (some 79) none (SOp.len false (Operand.tmp 78)),
                      SOper.mk (some 80) none (SOp.mv (Operand.const (Value.int IntKind.i64 0)))]
                    [7, 10, 78, 79, 80])
                  (Stmt.block 0 (Stmt.loop S5_1 [80] [7, 10, 78, 79])))
                (Stmt.seq (Stmt.region [SOper.mk (some 4) none (SOp.mv (Operand.const (Value.bool true)))] [4])
                  Stmt.ret))))))))
def S5 : FnS := ⟨108, [(4, none)], S5_0⟩
theorem tr5 : trFn Try.prog 5 [12] [[1, 2], [1, 2, 5, 6], [1, 2, 31], [4], [1, 2, 7, 8], [1, 2, 7, 8, 51], [4], [1, 2, 7, 8, 9], [2, 7, 76], [4], [7, 10], [7, 10, 78, 79, 80], [80], [7, 10, 78, 79], [7, 10, 78, 79, 80, 81], [7, 10, 11, 12, 78, 79, 80], [7, 10, 78, 79, 80, 106], [0, 1, 2, 3, 4, 5, 6, 7, 8, 9, 10, 11, 12, 13, 15, 16, 14, 17, 18, 19, 20, 21], [16], [], [0], [0, 1], [0, 1, 2], [0, 1, 2, 3], [0, 1, 2, 3, 4], [0, 1, 2, 3, 4, 5], [0, 1, 2, 3, 4, 5, 6], [0, 1, 2, 3, 4, 5, 6, 7], [0, 1, 2, 3, 4, 5, 6, 7], [0, 1, 2, 3, 4, 5, 6, 7], [0, 1, 2, 3, 4, 5, 6, 7, 10], [0, 1, 2, 3, 4, 5, 6, 7, 9, 10, 11], [0, 1, 2, 3, 4, 5, 6, 7, 9, 10, 11, 12], [0, 1, 2, 3, 4, 5, 6, 7, 8, 9, 10, 11, 12, 13], [0, 1, 2, 3, 4, 5, 6, 7], [0, 1, 2, 3, 4, 5, 6, 7], [0, 1, 2, 3, 4, 5, 6, 7, 8, 9, 10, 11, 12, 13, 14, 15, 16], [0, 1, 2, 3, 4, 5, 6, 7, 8, 9, 10, 11, 12, 13, 14, 15, 16, 17], [0, 1, 2, 3, 4, 5, 6, 7, 8, 9, 10, 11, 12, 13, 14, 15, 16, 17, 18], [0, 1, 2, 3, 4, 5, 6, 7, 8, 9, 10, 11, 12, 13, 14, 15, 16, 17, 18, 19], [0, 1, 2, 3, 4, 5, 6, 7, 8, 9, 10, 11, 12, 13, 14, 15, 16, 17, 18, 19, 20], [4], [7, 10, 78, 79, 80], [4]] = some S5 := by kernel_rfl
end Go.Proofs.Ytniobbepliknmaa.V
