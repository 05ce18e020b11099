/- The text of parlance/draw.Pick as a statement (slots: 0 weights, 1 coins, 2 weights, 3 coins, 7 sum, 8 _, 9 w, 10 x, 11 used, 12 e, 13 i, 14 w); no condition. -/
import Derived.Test.YtniobbepliknmaaVh
import Derived.Test.YtniobbepliknmaaProg
namespace Go.Proofs.Ytniobbepliknmaa.V
open Go
def S23_1 : Stmt :=
  Stmt.seq
  (Stmt.region [SOper.mk (some 21) none (SOp.ibin BinOp.lss (Operand.tmp 20) (Operand.tmp 19))]
    [0, 1, 7, 18, 19, 20, 21])
  (Stmt.seq (Stmt.cond (Operand.tmp 21) Stmt.skip (Stmt.exit 0))
    (Stmt.seq
      (Stmt.block 1
        (Stmt.seq
          (Stmt.region
            [SOper.mk (some 22) none (SOp.idx 1 (Operand.tmp 18) (Operand.tmp 20)),
              SOper.mk (some 23) none (SOp.load false 1 (Operand.tmp 22)),
              SOper.mk (some 9) none (SOp.mv (Operand.tmp 23))]
            [0, 1, 7, 9, 18, 19, 20])
          (Stmt.seq
            (Stmt.seq
              (Stmt.region
                [SOper.mk (some 24) none (SOp.mv (Operand.tmp 9)),
                  SOper.mk (some 25) none
                    (SOp.ibin BinOp.lss (Operand.tmp 24) (Operand.const (Value.int IntKind.i64 0))),
                  SOper.mk (some 26) none (SOp.mv (Operand.tmp 25)),
                  SOper.mk (some 27) (some (26, false)) (SOp.mv (Operand.tmp 9)),
                  SOper.mk (some 28) (some (26, false))
                    (SOp.ibin BinOp.gtr (Operand.tmp 27) (Operand.const (Value.int IntKind.i64 1000000))),
                  SOper.mk (some 29) none
                    (SOp.pick (Operand.tmp 26) (Operand.const (Value.bool true)) (Operand.tmp 28))]
                [0, 1, 7, 9, 18, 19, 20, 29])
              (Stmt.cond (Operand.tmp 29)
                (Stmt.seq
                  (Stmt.region
                    [SOper.mk (some 4) none (SOp.mv (Operand.const (Value.int IntKind.i64 0))),
                      SOper.mk (some 5) none (SOp.mv (Operand.const (Value.int IntKind.i64 0))),
                      SOper.mk (some 6) none (SOp.mv (Operand.const (Value.int IntKind.i64 1)))]
                    [4, 5, 6])
                  Stmt.ret)
                Stmt.skip))
            (Stmt.region
              [SOper.mk (some 30) none (SOp.mv (Operand.tmp 7)), SOper.mk (some 31) none (SOp.mv (Operand.tmp 9)),
                SOper.mk (some 32) none (SOp.ibin BinOp.add (Operand.tmp 30) (Operand.tmp 31)),
                SOper.mk (some 7) none (SOp.mv (Operand.tmp 32))]
              [0, 1, 7, 18, 19, 20]))))
      (Stmt.region
        [SOper.mk (some 33) none (SOp.ibin BinOp.add (Operand.tmp 20) (Operand.const (Value.int IntKind.i64 1))),
          SOper.mk (some 20) none (SOp.mv (Operand.tmp 33))]
        [0, 1, 7, 18, 19, 20])))
def S23_2 : Stmt :=
  Stmt.seq
  (Stmt.region [SOper.mk (some 49) none (SOp.ibin BinOp.lss (Operand.tmp 48) (Operand.tmp 47))]
    [10, 11, 46, 47, 48, 49])
  (Stmt.seq (Stmt.cond (Operand.tmp 49) Stmt.skip (Stmt.exit 2))
    (Stmt.seq
      (Stmt.block 3
        (Stmt.seq
          (Stmt.region
            [SOper.mk (some 50) none (SOp.mv (Operand.tmp 48)),
              SOper.mk (some 51) none (SOp.idx 1 (Operand.tmp 46) (Operand.tmp 48)),
              SOper.mk (some 52) none (SOp.load false 1 (Operand.tmp 51)),
              SOper.mk (some 13) none (SOp.mv (Operand.tmp 50)), SOper.mk (some 14) none (SOp.mv (Operand.tmp 52))]
            [10, 11, 13, 14, 46, 47, 48])
          (Stmt.seq
            (Stmt.seq
              (Stmt.region
                [SOper.mk (some 53) none (SOp.mv (Operand.tmp 10)), SOper.mk (some 54) none (SOp.mv (Operand.tmp 14)),
                  SOper.mk (some 55) none (SOp.ibin BinOp.lss (Operand.tmp 53) (Operand.tmp 54))]
                [10, 11, 13, 14, 46, 47, 48, 55])
              (Stmt.cond (Operand.tmp 55)
                (Stmt.seq
                  (Stmt.region
                    [SOper.mk (some 56) none (SOp.mv (Operand.tmp 13)),
                      SOper.mk (some 57) none (SOp.mv (Operand.tmp 11)),
                      SOper.mk (some 4) none (SOp.mv (Operand.tmp 56)),
                      SOper.mk (some 5) none (SOp.mv (Operand.tmp 57)),
                      SOper.mk (some 6) none (SOp.mv (Operand.const (Value.int IntKind.i64 0)))]
                    [4, 5, 6])
                  Stmt.ret)
                Stmt.skip))
            (Stmt.region
              [SOper.mk (some 58) none (SOp.mv (Operand.tmp 10)), SOper.mk (some 59) none (SOp.mv (Operand.tmp 14)),
                SOper.mk (some 60) none (SOp.ibin BinOp.sub (Operand.tmp 58) (Operand.tmp 59)),
                SOper.mk (some 10) none (SOp.mv (Operand.tmp 60))]
              [10, 11, 46, 47, 48]))))
      (Stmt.region
        [SOper.mk (some 61) none (SOp.ibin BinOp.add (Operand.tmp 48) (Operand.const (Value.int IntKind.i64 1))),
          SOper.mk (some 48) none (SOp.mv (Operand.tmp 61))]
        [10, 11, 46, 47, 48])))
def S23_0 : Stmt :=
  Stmt.seq
  (Stmt.region
    [SOper.mk (some 4) none (SOp.mv (Operand.const (Value.int IntKind.i64 0))),
      SOper.mk (some 5) none (SOp.mv (Operand.const (Value.int IntKind.i64 0))),
      SOper.mk (some 6) none (SOp.mv (Operand.const (Value.int IntKind.i64 0)))]
    [0, 1])
  (Stmt.seq
    (Stmt.seq
      (Stmt.region
        [SOper.mk (some 15) none (SOp.mv (Operand.tmp 0)), SOper.mk (some 16) none (SOp.len false (Operand.tmp 15)),
          SOper.mk (some 17) none (SOp.ibin BinOp.gtr (Operand.tmp 16) (Operand.const (Value.int IntKind.i64 100)))]
        [0, 1, 17])
      (Stmt.cond (Operand.tmp 17)
        (Stmt.seq
          (Stmt.region
            [SOper.mk (some 4) none (SOp.mv (Operand.const (Value.int IntKind.i64 0))),
              SOper.mk (some 5) none (SOp.mv (Operand.const (Value.int IntKind.i64 0))),
              SOper.mk (some 6) none (SOp.mv (Operand.const (Value.int IntKind.i64 2)))]
            [4, 5, 6])
          Stmt.ret)
        Stmt.skip))
    (Stmt.seq (Stmt.region [SOper.mk (some 7) none (SOp.mv (Operand.const (Value.int IntKind.i64 0)))] [0, 1, 7])
      (Stmt.seq
        (Stmt.seq
          (Stmt.region
            [SOper.mk (some 18) none (SOp.mv (Operand.tmp 0)), SOper.mk (some 19) none (SOp.len false (Operand.tmp 18)),
              SOper.mk (some 20) none (SOp.mv (Operand.const (Value.int IntKind.i64 0)))]
            [0, 1, 7, 18, 19, 20])
          (Stmt.block 0 (Stmt.loop S23_1 [7, 20] [0, 1, 18, 19])))
        (Stmt.seq
          (Stmt.seq
            (Stmt.region
              [SOper.mk (some 34) none (SOp.mv (Operand.tmp 7)),
                SOper.mk (some 35) none (SOp.ibin BinOp.eql (Operand.tmp 34) (Operand.const (Value.int IntKind.i64 0)))]
              [0, 1, 7, 35])
            (Stmt.cond (Operand.tmp 35)
              (Stmt.seq
                (Stmt.region
                  [SOper.mk (some 4) none (SOp.mv (Operand.const (Value.int IntKind.i64 0))),
                    SOper.mk (some 5) none (SOp.mv (Operand.const (Value.int IntKind.i64 0))),
                    SOper.mk (some 6) none (SOp.mv (Operand.const (Value.int IntKind.i64 1)))]
                  [4, 5, 6])
                Stmt.ret)
              Stmt.skip))
          (Stmt.seq
            (Stmt.region
              [SOper.mk (some 37) none (SOp.mv (Operand.tmp 7)), SOper.mk (some 38) none (SOp.mv (Operand.tmp 1)),
                SOper.mk (some 39) none (SOp.call (Operand.func 21) [Operand.tmp 37, Operand.tmp 38]),
                SOper.mk (some 36) none (SOp.mv (Operand.tmp 39)),
                SOper.mk (some 40) none (SOp.extract 0 (Operand.tmp 36)),
                SOper.mk (some 41) none (SOp.extract 1 (Operand.tmp 36)),
                SOper.mk (some 42) none (SOp.extract 2 (Operand.tmp 36)),
                SOper.mk (some 10) none (SOp.mv (Operand.tmp 40)), SOper.mk (some 11) none (SOp.mv (Operand.tmp 41)),
                SOper.mk (some 12) none (SOp.mv (Operand.tmp 42))]
              [0, 10, 11, 12])
            (Stmt.seq
              (Stmt.seq
                (Stmt.region
                  [SOper.mk (some 43) none (SOp.mv (Operand.tmp 12)),
                    SOper.mk (some 44) none
                      (SOp.ibin BinOp.neq (Operand.tmp 43) (Operand.const (Value.int IntKind.i64 0)))]
                  [0, 10, 11, 12, 44])
                (Stmt.cond (Operand.tmp 44)
                  (Stmt.seq
                    (Stmt.region
                      [SOper.mk (some 45) none (SOp.mv (Operand.tmp 12)),
                        SOper.mk (some 4) none (SOp.mv (Operand.const (Value.int IntKind.i64 0))),
                        SOper.mk (some 5) none (SOp.mv (Operand.const (Value.int IntKind.i64 0))),
                        SOper.mk (some 6) none (SOp.mv (Operand.tmp 45))]
                      [4, 5, 6])
                    Stmt.ret)
                  Stmt.skip))
              (Stmt.seq
                (Stmt.seq
                  (Stmt.region
                    [SOper.mk (some 46) none (SOp.mv (Operand.tmp 0)),
                      SOper.mk (some 47) none (SOp.len false (Operand.tmp 46)),
                      SOper.mk (some 48) none (SOp.mv (Operand.const (Value.int IntKind.i64 0)))]
                    [10, 11, 46, 47, 48])
                  (Stmt.block 2 (Stmt.loop S23_2 [10, 48] [11, 46, 47])))
                (Stmt.seq
                  (Stmt.region
                    [SOper.mk (some 4) none (SOp.mv (Operand.const (Value.int IntKind.i64 0))),
                      SOper.mk (some 5) none (SOp.mv (Operand.const (Value.int IntKind.i64 0))),
                      SOper.mk (some 6) none (SOp.mv (Operand.const (Value.int IntKind.i64 5)))]
                    [4, 5, 6])
                  Stmt.ret))))))))
def S23 : FnS := ⟨62, [4, 5, 6], S23_0⟩
theorem tr23 : trFn Try.prog 23 [] [[0, 1], [0, 1, 17], [4, 5, 6], [0, 1, 7], [0, 1, 7, 18, 19, 20], [7, 20], [0, 1, 18, 19], [0, 1, 7, 18, 19, 20, 21], [0, 1, 7, 9, 18, 19, 20], [0, 1, 7, 9, 18, 19, 20, 29], [4, 5, 6], [0, 1, 7, 18, 19, 20], [0, 1, 7, 18, 19, 20], [0, 1, 7, 35], [4, 5, 6], [0, 10, 11, 12], [0, 10, 11, 12, 44], [4, 5, 6], [10, 11, 46, 47, 48], [10, 48], [11, 46, 47], [10, 11, 46, 47, 48, 49], [10, 11, 13, 14, 46, 47, 48], [10, 11, 13, 14, 46, 47, 48, 55], [4, 5, 6], [10, 11, 46, 47, 48], [10, 11, 46, 47, 48], [4, 5, 6]] = some S23 := by kernel_rfl
end Go.Proofs.Ytniobbepliknmaa.V
