/- The text of parlance/parllaw5.DrawNumbers as a statement (slots: 0 n, 1 coins, 2 n, 3 coins, 5 x, 6 k, 7 e, 8 x, 9 k, 10 e, 11 y, 12 j, 13 ok); no condition. -/
import Derived.Test.YtniobbepliknmaaVh
import Derived.Test.YtniobbepliknmaaProg
namespace Go.Proofs.Ytniobbepliknmaa.V
open Go
def S3_0 : Stmt :=
  Stmt.seq (Stmt.region [SOper.mk (some 4) none (SOp.mv (Operand.const (Value.bool false)))] [0, 1])
  (Stmt.seq
    (Stmt.seq
      (Stmt.region
        [SOper.mk (some 15) none
            (SOp.buildS 4 4 [Value.bool false, Value.bool false, Value.bool false, Value.bool false]
              [(0, 1, Operand.const (Value.bool true)), (1, 1, Operand.const (Value.bool true)),
                (2, 1, Operand.const (Value.bool true)), (3, 1, Operand.const (Value.bool false))]),
          SOper.mk (some 16) none
            (SOp.call (Operand.func 21) [Operand.const (Value.int IntKind.i64 3), Operand.tmp 15]),
          SOper.mk (some 14) none (SOp.mv (Operand.tmp 16)), SOper.mk (some 17) none (SOp.extract 0 (Operand.tmp 14)),
          SOper.mk (some 18) none (SOp.extract 1 (Operand.tmp 14)),
          SOper.mk (some 19) none (SOp.extract 2 (Operand.tmp 14)), SOper.mk (some 5) none (SOp.mv (Operand.tmp 17)),
          SOper.mk (some 6) none (SOp.mv (Operand.tmp 18)), SOper.mk (some 7) none (SOp.mv (Operand.tmp 19))]
        [0, 1, 5, 6, 7])
      (Stmt.seq
        (Stmt.region
          [SOper.mk (some 20) none (SOp.mv (Operand.tmp 5)),
            SOper.mk (some 21) none (SOp.ibin BinOp.neq (Operand.tmp 20) (Operand.const (Value.int IntKind.i64 2))),
            SOper.mk (some 22) none (SOp.mv (Operand.tmp 21)),
            SOper.mk (some 23) (some (22, false)) (SOp.mv (Operand.tmp 6)),
            SOper.mk (some 24) (some (22, false))
              (SOp.ibin BinOp.neq (Operand.tmp 23) (Operand.const (Value.int IntKind.i64 4))),
            SOper.mk (some 25) none (SOp.pick (Operand.tmp 22) (Operand.const (Value.bool true)) (Operand.tmp 24)),
            SOper.mk (some 26) none (SOp.mv (Operand.tmp 25)),
            SOper.mk (some 27) (some (26, false)) (SOp.mv (Operand.tmp 7)),
            SOper.mk (some 28) (some (26, false))
              (SOp.ibin BinOp.neq (Operand.tmp 27) (Operand.const (Value.int IntKind.i64 0))),
            SOper.mk (some 29) none (SOp.pick (Operand.tmp 26) (Operand.const (Value.bool true)) (Operand.tmp 28))]
          [0, 1, 29])
        (Stmt.cond (Operand.tmp 29)
          (Stmt.seq (Stmt.region [SOper.mk (some 4) none (SOp.mv (Operand.const (Value.bool false)))] [4]) Stmt.ret)
          Stmt.skip)))
    (Stmt.seq
      (Stmt.region
        [SOper.mk (some 31) none (SOp.mv (Operand.tmp 0)), SOper.mk (some 32) none (SOp.mv (Operand.tmp 1)),
          SOper.mk (some 33) none (SOp.call (Operand.func 21) [Operand.tmp 31, Operand.tmp 32]),
          SOper.mk (some 30) none (SOp.mv (Operand.tmp 33)), SOper.mk (some 34) none (SOp.extract 0 (Operand.tmp 30)),
          SOper.mk (some 35) none (SOp.extract 1 (Operand.tmp 30)),
          SOper.mk (some 36) none (SOp.extract 2 (Operand.tmp 30)), SOper.mk (some 8) none (SOp.mv (Operand.tmp 34)),
          SOper.mk (some 9) none (SOp.mv (Operand.tmp 35)), SOper.mk (some 10) none (SOp.mv (Operand.tmp 36))]
        [0, 1, 8, 9, 10])
      (Stmt.seq
        (Stmt.seq
          (Stmt.region
            [SOper.mk (some 37) none (SOp.mv (Operand.tmp 0)),
              SOper.mk (some 38) none (SOp.ibin BinOp.lss (Operand.tmp 37) (Operand.const (Value.int IntKind.i64 1))),
              SOper.mk (some 39) none (SOp.mv (Operand.tmp 38)),
              SOper.mk (some 40) (some (39, false)) (SOp.mv (Operand.tmp 0)),
              SOper.mk (some 41) (some (39, false))
                (SOp.ibin BinOp.gtr (Operand.tmp 40) (Operand.const (Value.int IntKind.i64 1000000000))),
              SOper.mk (some 42) none (SOp.pick (Operand.tmp 39) (Operand.const (Value.bool true)) (Operand.tmp 41))]
            [0, 1, 8, 9, 10, 42])
          (Stmt.cond (Operand.tmp 42)
            (Stmt.seq
              (Stmt.region
                [SOper.mk (some 43) none (SOp.mv (Operand.tmp 10)),
                  SOper.mk (some 44) none
                    (SOp.ibin BinOp.eql (Operand.tmp 43) (Operand.const (Value.int IntKind.i64 1))),
                  SOper.mk (some 45) none (SOp.mv (Operand.tmp 44)),
                  SOper.mk (some 46) (some (45, true)) (SOp.mv (Operand.tmp 8)),
                  SOper.mk (some 47) (some (45, true))
                    (SOp.ibin BinOp.eql (Operand.tmp 46) (Operand.const (Value.int IntKind.i64 0))),
                  SOper.mk (some 48) none
                    (SOp.pick (Operand.tmp 45) (Operand.tmp 47) (Operand.const (Value.bool false))),
                  SOper.mk (some 49) none (SOp.mv (Operand.tmp 48)),
                  SOper.mk (some 50) (some (49, true)) (SOp.mv (Operand.tmp 9)),
                  SOper.mk (some 51) (some (49, true))
                    (SOp.ibin BinOp.eql (Operand.tmp 50) (Operand.const (Value.int IntKind.i64 0))),
                  SOper.mk (some 52) none
                    (SOp.pick (Operand.tmp 49) (Operand.tmp 51) (Operand.const (Value.bool false))),
                  SOper.mk (some 4) none (SOp.mv (Operand.tmp 52))]
                [4])
              Stmt.ret)
            Stmt.skip))
        (Stmt.seq
          (Stmt.region
            [SOper.mk (some 54) none (SOp.mv (Operand.tmp 0)), SOper.mk (some 55) none (SOp.mv (Operand.tmp 1)),
              SOper.mk (some 56) none (SOp.call (Operand.func 22) [Operand.tmp 54, Operand.tmp 55]),
              SOper.mk (some 53) none (SOp.mv (Operand.tmp 56)),
              SOper.mk (some 57) none (SOp.extract 0 (Operand.tmp 53)),
              SOper.mk (some 58) none (SOp.extract 1 (Operand.tmp 53)),
              SOper.mk (some 59) none (SOp.extract 2 (Operand.tmp 53)),
              SOper.mk (some 11) none (SOp.mv (Operand.tmp 57)), SOper.mk (some 12) none (SOp.mv (Operand.tmp 58)),
              SOper.mk (some 13) none (SOp.mv (Operand.tmp 59))]
            [8, 9, 10, 11, 12, 13])
          (Stmt.seq
            (Stmt.seq
              (Stmt.region
                [SOper.mk (some 60) none (SOp.mv (Operand.tmp 13)),
                  SOper.mk (some 61) none (SOp.un UnOp.not (Operand.tmp 60))]
                [8, 9, 10, 11, 12, 61])
              (Stmt.cond (Operand.tmp 61)
                (Stmt.seq
                  (Stmt.region
                    [SOper.mk (some 62) none (SOp.mv (Operand.tmp 10)),
                      SOper.mk (some 63) none
                        (SOp.ibin BinOp.eql (Operand.tmp 62) (Operand.const (Value.int IntKind.i64 5))),
                      SOper.mk (some 64) none (SOp.mv (Operand.tmp 63)),
                      SOper.mk (some 65) (some (64, true)) (SOp.mv (Operand.tmp 8)),
                      SOper.mk (some 66) (some (64, true))
                        (SOp.ibin BinOp.eql (Operand.tmp 65) (Operand.const (Value.int IntKind.i64 0))),
                      SOper.mk (some 67) none
                        (SOp.pick (Operand.tmp 64) (Operand.tmp 66) (Operand.const (Value.bool false))),
                      SOper.mk (some 68) none (SOp.mv (Operand.tmp 67)),
                      SOper.mk (some 69) (some (68, true)) (SOp.mv (Operand.tmp 9)),
                      SOper.mk (some 70) (some (68, true))
                        (SOp.ibin BinOp.eql (Operand.tmp 69) (Operand.const (Value.int IntKind.i64 0))),
                      SOper.mk (some 71) none
                        (SOp.pick (Operand.tmp 68) (Operand.tmp 70) (Operand.const (Value.bool false))),
                      SOper.mk (some 4) none (SOp.mv (Operand.tmp 71))]
                    [4])
                  Stmt.ret)
                Stmt.skip))
            (Stmt.seq
              (Stmt.region
                [SOper.mk (some 72) none (SOp.mv (Operand.tmp 10)),
                  SOper.mk (some 73) none
                    (SOp.ibin BinOp.eql (Operand.tmp 72) (Operand.const (Value.int IntKind.i64 0))),
                  SOper.mk (some 74) none (SOp.mv (Operand.tmp 73)),
                  SOper.mk (some 75) (some (74, true)) (SOp.mv (Operand.tmp 8)),
                  SOper.mk (some 76) (some (74, true)) (SOp.mv (Operand.tmp 11)),
                  SOper.mk (some 77) (some (74, true)) (SOp.ibin BinOp.eql (Operand.tmp 75) (Operand.tmp 76)),
                  SOper.mk (some 78) none
                    (SOp.pick (Operand.tmp 74) (Operand.tmp 77) (Operand.const (Value.bool false))),
                  SOper.mk (some 79) none (SOp.mv (Operand.tmp 78)),
                  SOper.mk (some 80) (some (79, true)) (SOp.mv (Operand.tmp 9)),
                  SOper.mk (some 81) (some (79, true)) (SOp.mv (Operand.tmp 12)),
                  SOper.mk (some 82) (some (79, true)) (SOp.ibin BinOp.eql (Operand.tmp 80) (Operand.tmp 81)),
                  SOper.mk (some 83) none
                    (SOp.pick (Operand.tmp 79) (Operand.tmp 82) (Operand.const (Value.bool false))),
                  SOper.mk (some 4) none (SOp.mv (Operand.tmp 83))]
                [4])
              Stmt.ret))))))
def S3 : FnS := ⟨84, [4], S3_0⟩
theorem tr3 : trFn Try.prog 3 [] [[0, 1], [0, 1, 5, 6, 7], [0, 1, 29], [4], [0, 1, 8, 9, 10], [0, 1, 8, 9, 10, 42], [4], [8, 9, 10, 11, 12, 13], [8, 9, 10, 11, 12, 61], [4], [4]] = some S3 := by kernel_rfl
end Go.Proofs.Ytniobbepliknmaa.V
