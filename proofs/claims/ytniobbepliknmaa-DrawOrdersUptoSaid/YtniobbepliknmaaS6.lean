/- The text of parlance/parllaw5.DrawOrders as a statement (slots: 0 n, 1 coins, 2 n, 3 coins, 5 l, 6 k, 7 e, 8 l, 9 k, 10 e, 11 left, 12 want, 13 i, 14 used, 15 i, 16 j, 17 ok); no condition. -/
import Derived.Test.YtniobbepliknmaaVh
import Derived.Test.YtniobbepliknmaaProg
namespace Go.Proofs.Ytniobbepliknmaa.V
open Go
def S6_1 : Stmt :=
  Stmt.seq
  (Stmt.region [SOper.mk (some 62) none (SOp.ibin BinOp.lss (Operand.tmp 61) (Operand.tmp 60))]
    [1, 8, 9, 10, 11, 12, 60, 61, 62])
  (Stmt.seq (Stmt.cond (Operand.tmp 62) Stmt.skip (Stmt.exit 0))
    (Stmt.seq
      (Stmt.block 1
        (Stmt.seq
          (Stmt.region
            [SOper.mk (some 63) none (SOp.mv (Operand.tmp 61)), SOper.mk (some 13) none (SOp.mv (Operand.tmp 63))]
            [1, 8, 9, 10, 11, 12, 13, 60, 61])
          (Stmt.region
            [SOper.mk (some 64) none (SOp.mv (Operand.tmp 11)), SOper.mk (some 65) none (SOp.mv (Operand.tmp 13)),
              SOper.mk (some 66) none (SOp.buildS 3 1 [Value.int IntKind.i64 0] [(0, 1, Operand.tmp 65)]),
              SOper.mk (some 67) none (SOp.append 29 3 1 8 (Value.int IntKind.i64 0) (Operand.tmp 64) (Operand.tmp 66)),
              SOper.mk (some 11) none (SOp.mv (Operand.tmp 67))]
            [1, 8, 9, 10, 11, 12, 60, 61])))
      (Stmt.region
        [SOper.mk (some 68) none (SOp.ibin BinOp.add (Operand.tmp 61) (Operand.const (Value.int IntKind.i64 1))),
          SOper.mk (some 61) none (SOp.mv (Operand.tmp 68))]
        [1, 8, 9, 10, 11, 12, 60, 61])))
def S6_2 : Stmt :=
  Stmt.seq
  (Stmt.seq
    (Stmt.region
      [SOper.mk (some 69) none (SOp.mv (Operand.tmp 11)), SOper.mk (some 70) none (SOp.len false (Operand.tmp 69)),
        SOper.mk (some 71) none (SOp.ibin BinOp.gtr (Operand.tmp 70) (Operand.const (Value.int IntKind.i64 0)))]
      [1, 8, 9, 10, 11, 12, 14, 71])
    (Stmt.cond (Operand.tmp 71) Stmt.skip (Stmt.exit 2)))
  (Stmt.block 3
    (Stmt.seq
      (Stmt.region
        [SOper.mk (some 73) none (SOp.mv (Operand.tmp 11)), SOper.mk (some 74) none (SOp.len false (Operand.tmp 73)),
          SOper.mk (some 75) none (SOp.mv (Operand.tmp 1)), SOper.mk (some 76) none (SOp.mv (Operand.tmp 14)),
          SOper.mk (some 77) none (SOp.slc 1 (Operand.tmp 75) (some (Operand.tmp 76)) none none),
          SOper.mk (some 78) none (SOp.call (Operand.func 22) [Operand.tmp 74, Operand.tmp 77]),
          SOper.mk (some 72) none (SOp.mv (Operand.tmp 78)), SOper.mk (some 79) none (SOp.extract 0 (Operand.tmp 72)),
          SOper.mk (some 80) none (SOp.extract 1 (Operand.tmp 72)),
          SOper.mk (some 81) none (SOp.extract 2 (Operand.tmp 72)), SOper.mk (some 15) none (SOp.mv (Operand.tmp 79)),
          SOper.mk (some 16) none (SOp.mv (Operand.tmp 80)), SOper.mk (some 17) none (SOp.mv (Operand.tmp 81))]
        [1, 8, 9, 10, 11, 12, 14, 15, 16, 17])
      (Stmt.seq
        (Stmt.seq
          (Stmt.region
            [SOper.mk (some 82) none (SOp.mv (Operand.tmp 17)),
              SOper.mk (some 83) none (SOp.un UnOp.not (Operand.tmp 82))]
            [1, 8, 9, 10, 11, 12, 14, 15, 16, 83])
          (Stmt.cond (Operand.tmp 83)
            (Stmt.seq
              (Stmt.region
                [SOper.mk (some 84) none (SOp.mv (Operand.tmp 10)),
                  SOper.mk (some 85) none
                    (SOp.ibin BinOp.eql (Operand.tmp 84) (Operand.const (Value.int IntKind.i64 5))),
                  SOper.mk (some 86) none (SOp.mv (Operand.tmp 85)),
                  SOper.mk (some 87) (some (86, true)) (SOp.mv (Operand.tmp 8)),
                  SOper.mk (some 88) (some (86, true)) (SOp.len false (Operand.tmp 87)),
                  SOper.mk (some 89) (some (86, true))
                    (SOp.ibin BinOp.eql (Operand.tmp 88) (Operand.const (Value.int IntKind.i64 0))),
                  SOper.mk (some 90) none
                    (SOp.pick (Operand.tmp 86) (Operand.tmp 89) (Operand.const (Value.bool false))),
                  SOper.mk (some 91) none (SOp.mv (Operand.tmp 90)),
                  SOper.mk (some 92) (some (91, true)) (SOp.mv (Operand.tmp 9)),
                  SOper.mk (some 93) (some (91, true))
                    (SOp.ibin BinOp.eql (Operand.tmp 92) (Operand.const (Value.int IntKind.i64 0))),
                  SOper.mk (some 94) none
                    (SOp.pick (Operand.tmp 91) (Operand.tmp 93) (Operand.const (Value.bool false))),
                  SOper.mk (some 4) none (SOp.mv (Operand.tmp 94))]
                [4])
              Stmt.ret)
            Stmt.skip))
        (Stmt.seq
          (Stmt.region
            [SOper.mk (some 95) none (SOp.mv (Operand.tmp 14)), SOper.mk (some 96) none (SOp.mv (Operand.tmp 16)),
              SOper.mk (some 97) none (SOp.ibin BinOp.add (Operand.tmp 95) (Operand.tmp 96)),
              SOper.mk (some 14) none (SOp.mv (Operand.tmp 97))]
            [1, 8, 9, 10, 11, 12, 14, 15])
          (Stmt.seq
            (Stmt.region
              [SOper.mk (some 98) none (SOp.mv (Operand.tmp 12)), SOper.mk (some 99) none (SOp.mv (Operand.tmp 11)),
                SOper.mk (some 100) none (SOp.mv (Operand.tmp 15)),
                SOper.mk (some 101) none (SOp.idx 1 (Operand.tmp 99) (Operand.tmp 100)),
                SOper.mk (some 102) none (SOp.load false 1 (Operand.tmp 101)),
                SOper.mk (some 103) none (SOp.buildS 3 1 [Value.int IntKind.i64 0] [(0, 1, Operand.tmp 102)]),
                SOper.mk (some 104) none
                  (SOp.append 29 3 1 8 (Value.int IntKind.i64 0) (Operand.tmp 98) (Operand.tmp 103)),
                SOper.mk (some 12) none (SOp.mv (Operand.tmp 104))]
              [1, 8, 9, 10, 11, 12, 14, 15])
            (Stmt.region
              [SOper.mk (some 105) none (SOp.mv (Operand.tmp 11)), SOper.mk (some 106) none (SOp.mv (Operand.tmp 15)),
                SOper.mk (some 107) none (SOp.mv (Operand.tmp 15)),
                SOper.mk (some 108) none
                  (SOp.ibin BinOp.add (Operand.tmp 107) (Operand.const (Value.int IntKind.i64 1))),
                SOper.mk (some 109) none
                  (SOp.call (Operand.func 29) [Operand.tmp 105, Operand.tmp 106, Operand.tmp 108]),
                SOper.mk (some 11) none (SOp.mv (Operand.tmp 109))]
              [1, 8, 9, 10, 11, 12, 14]))))))
def S6_0 : Stmt :=
  Stmt.seq (Stmt.region [SOper.mk (some 4) none (SOp.mv (Operand.const (Value.bool false)))] [0, 1])
  (Stmt.seq
    (Stmt.seq
      (Stmt.region
        [SOper.mk (some 19) none (SOp.buildS 4 1 [Value.bool false] [(0, 1, Operand.const (Value.bool true))]),
          SOper.mk (some 20) none
            (SOp.call (Operand.func 27) [Operand.const (Value.int IntKind.i64 2), Operand.tmp 19]),
          SOper.mk (some 18) none (SOp.mv (Operand.tmp 20)), SOper.mk (some 21) none (SOp.extract 0 (Operand.tmp 18)),
          SOper.mk (some 22) none (SOp.extract 1 (Operand.tmp 18)),
          SOper.mk (some 23) none (SOp.extract 2 (Operand.tmp 18)), SOper.mk (some 5) none (SOp.mv (Operand.tmp 21)),
          SOper.mk (some 6) none (SOp.mv (Operand.tmp 22)), SOper.mk (some 7) none (SOp.mv (Operand.tmp 23))]
        [0, 1, 5, 6, 7])
      (Stmt.seq
        (Stmt.region
          [SOper.mk (some 24) none (SOp.mv (Operand.tmp 7)),
            SOper.mk (some 25) none (SOp.ibin BinOp.neq (Operand.tmp 24) (Operand.const (Value.int IntKind.i64 0))),
            SOper.mk (some 26) none (SOp.mv (Operand.tmp 25)),
            SOper.mk (some 27) (some (26, false)) (SOp.mv (Operand.tmp 6)),
            SOper.mk (some 28) (some (26, false))
              (SOp.ibin BinOp.neq (Operand.tmp 27) (Operand.const (Value.int IntKind.i64 1))),
            SOper.mk (some 29) none (SOp.pick (Operand.tmp 26) (Operand.const (Value.bool true)) (Operand.tmp 28)),
            SOper.mk (some 30) none (SOp.mv (Operand.tmp 29)),
            SOper.mk (some 31) (some (30, false)) (SOp.mv (Operand.tmp 5)),
            SOper.mk (some 32) (some (30, false))
              (SOp.buildS 3 2 [Value.int IntKind.i64 0, Value.int IntKind.i64 0]
                [(0, 1, Operand.const (Value.int IntKind.i64 1)), (1, 1, Operand.const (Value.int IntKind.i64 0))]),
            SOper.mk (some 33) (some (30, false)) (SOp.call (Operand.func 28) [Operand.tmp 31, Operand.tmp 32]),
            SOper.mk (some 34) (some (30, false)) (SOp.un UnOp.not (Operand.tmp 33)),
            SOper.mk (some 35) none (SOp.pick (Operand.tmp 30) (Operand.const (Value.bool true)) (Operand.tmp 34))]
          [0, 1, 35])
        (Stmt.cond (Operand.tmp 35)
          (Stmt.seq (Stmt.region [SOper.mk (some 4) none (SOp.mv (Operand.const (Value.bool false)))] [4]) Stmt.ret)
          Stmt.skip)))
    (Stmt.seq
      (Stmt.region
        [SOper.mk (some 37) none (SOp.mv (Operand.tmp 0)), SOper.mk (some 38) none (SOp.mv (Operand.tmp 1)),
          SOper.mk (some 39) none (SOp.call (Operand.func 27) [Operand.tmp 37, Operand.tmp 38]),
          SOper.mk (some 36) none (SOp.mv (Operand.tmp 39)), SOper.mk (some 40) none (SOp.extract 0 (Operand.tmp 36)),
          SOper.mk (some 41) none (SOp.extract 1 (Operand.tmp 36)),
          SOper.mk (some 42) none (SOp.extract 2 (Operand.tmp 36)), SOper.mk (some 8) none (SOp.mv (Operand.tmp 40)),
          SOper.mk (some 9) none (SOp.mv (Operand.tmp 41)), SOper.mk (some 10) none (SOp.mv (Operand.tmp 42))]
        [0, 1, 8, 9, 10])
      (Stmt.seq
        (Stmt.seq
          (Stmt.region
            [SOper.mk (some 43) none (SOp.mv (Operand.tmp 0)),
              SOper.mk (some 44) none (SOp.ibin BinOp.lss (Operand.tmp 43) (Operand.const (Value.int IntKind.i64 0))),
              SOper.mk (some 45) none (SOp.mv (Operand.tmp 44)),
              SOper.mk (some 46) (some (45, false)) (SOp.mv (Operand.tmp 0)),
              SOper.mk (some 47) (some (45, false))
                (SOp.ibin BinOp.gtr (Operand.tmp 46) (Operand.const (Value.int IntKind.i64 100))),
              SOper.mk (some 48) none (SOp.pick (Operand.tmp 45) (Operand.const (Value.bool true)) (Operand.tmp 47))]
            [0, 1, 8, 9, 10, 48])
          (Stmt.cond (Operand.tmp 48)
            (Stmt.seq
              (Stmt.region
                [SOper.mk (some 49) none (SOp.mv (Operand.tmp 10)),
                  SOper.mk (some 50) none
                    (SOp.ibin BinOp.eql (Operand.tmp 49) (Operand.const (Value.int IntKind.i64 1))),
                  SOper.mk (some 51) none (SOp.mv (Operand.tmp 50)),
                  SOper.mk (some 52) (some (51, true)) (SOp.mv (Operand.tmp 8)),
                  SOper.mk (some 53) (some (51, true)) (SOp.len false (Operand.tmp 52)),
                  SOper.mk (some 54) (some (51, true))
                    (SOp.ibin BinOp.eql (Operand.tmp 53) (Operand.const (Value.int IntKind.i64 0))),
                  SOper.mk (some 55) none
                    (SOp.pick (Operand.tmp 51) (Operand.tmp 54) (Operand.const (Value.bool false))),
                  SOper.mk (some 56) none (SOp.mv (Operand.tmp 55)),
                  SOper.mk (some 57) (some (56, true)) (SOp.mv (Operand.tmp 9)),
                  SOper.mk (some 58) (some (56, true))
                    (SOp.ibin BinOp.eql (Operand.tmp 57) (Operand.const (Value.int IntKind.i64 0))),
                  SOper.mk (some 59) none
                    (SOp.pick (Operand.tmp 56) (Operand.tmp 58) (Operand.const (Value.bool false))),
                  SOper.mk (some 4) none (SOp.mv (Operand.tmp 59))]
                [4])
              Stmt.ret)
            Stmt.skip))
        (Stmt.seq
          (Stmt.region
            [SOper.mk (some 11) none (SOp.mv (Operand.const (Value.slice none 0 0))),
              SOper.mk (some 12) none (SOp.mv (Operand.const (Value.slice none 0 0)))]
            [0, 1, 8, 9, 10, 11, 12])
          (Stmt.seq
            (Stmt.seq
              (Stmt.region
                [SOper.mk (some 60) none (SOp.mv (Operand.tmp 0)),
                  SOper.mk (some 61) none (SOp.mv (Operand.const (Value.int IntKind.i64 0)))]
                [1, 8, 9, 10, 11, 12, 60, 61])
              (Stmt.block 0 (Stmt.loop S6_1 [11, 61] [1, 8, 9, 10, 12, 60])))
            (Stmt.seq
              (Stmt.region [SOper.mk (some 14) none (SOp.mv (Operand.const (Value.int IntKind.i64 0)))]
                [1, 8, 9, 10, 11, 12, 14])
              (Stmt.seq (Stmt.block 2 (Stmt.loop S6_2 [11, 12, 14] [1, 8, 9, 10]))
                (Stmt.seq
                  (Stmt.region
                    [SOper.mk (some 110) none (SOp.mv (Operand.tmp 10)),
                      SOper.mk (some 111) none
                        (SOp.ibin BinOp.eql (Operand.tmp 110) (Operand.const (Value.int IntKind.i64 0))),
                      SOper.mk (some 112) none (SOp.mv (Operand.tmp 111)),
                      SOper.mk (some 113) (some (112, true)) (SOp.mv (Operand.tmp 9)),
                      SOper.mk (some 114) (some (112, true)) (SOp.mv (Operand.tmp 14)),
                      SOper.mk (some 115) (some (112, true)) (SOp.ibin BinOp.eql (Operand.tmp 113) (Operand.tmp 114)),
                      SOper.mk (some 116) none
                        (SOp.pick (Operand.tmp 112) (Operand.tmp 115) (Operand.const (Value.bool false))),
                      SOper.mk (some 117) none (SOp.mv (Operand.tmp 116)),
                      SOper.mk (some 118) (some (117, true)) (SOp.mv (Operand.tmp 8)),
                      SOper.mk (some 119) (some (117, true)) (SOp.mv (Operand.tmp 12)),
                      SOper.mk (some 120) (some (117, true))
                        (SOp.call (Operand.func 28) [Operand.tmp 118, Operand.tmp 119]),
                      SOper.mk (some 121) none
                        (SOp.pick (Operand.tmp 117) (Operand.tmp 120) (Operand.const (Value.bool false))),
                      SOper.mk (some 4) none (SOp.mv (Operand.tmp 121))]
                    [4])
                  Stmt.ret))))))))
def S6 : FnS := ⟨122, [(4, none)], S6_0⟩
theorem tr6 : trFn Try.prog 6 [] [[0, 1], [0, 1, 5, 6, 7], [0, 1, 35], [4], [0, 1, 8, 9, 10], [0, 1, 8, 9, 10, 48], [4], [0, 1, 8, 9, 10, 11, 12], [1, 8, 9, 10, 11, 12, 60, 61], [11, 61], [1, 8, 9, 10, 12, 60], [1, 8, 9, 10, 11, 12, 60, 61, 62], [1, 8, 9, 10, 11, 12, 13, 60, 61], [1, 8, 9, 10, 11, 12, 60, 61], [1, 8, 9, 10, 11, 12, 60, 61], [1, 8, 9, 10, 11, 12, 14], [11, 12, 14], [1, 8, 9, 10], [1, 8, 9, 10, 11, 12, 14, 71], [1, 8, 9, 10, 11, 12, 14, 15, 16, 17], [1, 8, 9, 10, 11, 12, 14, 15, 16, 83], [4], [1, 8, 9, 10, 11, 12, 14, 15], [1, 8, 9, 10, 11, 12, 14, 15], [1, 8, 9, 10, 11, 12, 14], [4]] = some S6 := by kernel_rfl
end Go.Proofs.Ytniobbepliknmaa.V
