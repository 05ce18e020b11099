/- The text of slices.Compare[[]int,int] as a statement (slots: 0 s1, 1 s2, 2 s1, 3 s2, 5 i, 6 v1, 7 v2, 8 c); no condition. -/
import Derived.Test.YtniobbepliknmaaVh
import Derived.Test.YtniobbepliknmaaProg
namespace Go.Proofs.Ytniobbepliknmaa.V
open Go
def S26_1 : Stmt :=
  Stmt.seq
  (Stmt.region [SOper.mk (some 12) none (SOp.ibin BinOp.lss (Operand.tmp 11) (Operand.tmp 10))] [0, 1, 9, 10, 11, 12])
  (Stmt.seq (Stmt.cond (Operand.tmp 12) Stmt.skip (Stmt.exit 0))
    (Stmt.seq
      (Stmt.block 1
        (Stmt.seq
          (Stmt.region
            [SOper.mk (some 13) none (SOp.mv (Operand.tmp 11)),
              SOper.mk (some 14) none (SOp.idx 1 (Operand.tmp 9) (Operand.tmp 11)),
              SOper.mk (some 15) none (SOp.load false 1 (Operand.tmp 14)),
              SOper.mk (some 5) none (SOp.mv (Operand.tmp 13)), SOper.mk (some 6) none (SOp.mv (Operand.tmp 15))]
            [0, 1, 5, 6, 9, 10, 11])
          (Stmt.seq
            (Stmt.seq
              (Stmt.region
                [SOper.mk (some 16) none (SOp.mv (Operand.tmp 5)), SOper.mk (some 17) none (SOp.mv (Operand.tmp 1)),
                  SOper.mk (some 18) none (SOp.len false (Operand.tmp 17)),
                  SOper.mk (some 19) none (SOp.ibin BinOp.geq (Operand.tmp 16) (Operand.tmp 18))]
                [0, 1, 5, 6, 9, 10, 11, 19])
              (Stmt.cond (Operand.tmp 19)
                (Stmt.seq (Stmt.region [SOper.mk (some 4) none (SOp.mv (Operand.const (Value.int IntKind.i64 1)))] [4])
                  Stmt.ret)
                Stmt.skip))
            (Stmt.seq
              (Stmt.region
                [SOper.mk (some 20) none (SOp.mv (Operand.tmp 1)), SOper.mk (some 21) none (SOp.mv (Operand.tmp 5)),
                  SOper.mk (some 22) none (SOp.idx 1 (Operand.tmp 20) (Operand.tmp 21)),
                  SOper.mk (some 23) none (SOp.load false 1 (Operand.tmp 22)),
                  SOper.mk (some 7) none (SOp.mv (Operand.tmp 23))]
                [0, 1, 6, 7, 9, 10, 11])
              (Stmt.seq
                (Stmt.region
                  [SOper.mk (some 24) none (SOp.mv (Operand.tmp 6)), SOper.mk (some 25) none (SOp.mv (Operand.tmp 7)),
                    SOper.mk (some 26) none (SOp.call (Operand.func 105) [Operand.tmp 24, Operand.tmp 25]),
                    SOper.mk (some 8) none (SOp.mv (Operand.tmp 26))]
                  [0, 1, 8, 9, 10, 11])
                (Stmt.seq
                  (Stmt.region
                    [SOper.mk (some 27) none (SOp.mv (Operand.tmp 8)),
                      SOper.mk (some 28) none
                        (SOp.ibin BinOp.neq (Operand.tmp 27) (Operand.const (Value.int IntKind.i64 0)))]
                    [0, 1, 8, 9, 10, 11, 28])
                  (Stmt.cond (Operand.tmp 28)
                    (Stmt.seq
                      (Stmt.region
                        [SOper.mk (some 29) none (SOp.mv (Operand.tmp 8)),
                          SOper.mk (some 4) none (SOp.mv (Operand.tmp 29))]
                        [4])
                      Stmt.ret)
                    Stmt.skip)))))))
      (Stmt.region
        [SOper.mk (some 30) none (SOp.ibin BinOp.add (Operand.tmp 11) (Operand.const (Value.int IntKind.i64 1))),
          SOper.mk (some 11) none (SOp.mv (Operand.tmp 30))]
        [0, 1, 9, 10, 11])))
def S26_0 : Stmt :=
  Stmt.seq (Stmt.region [SOper.mk (some 4) none (SOp.mv (Operand.const (Value.int IntKind.i64 0)))] [0, 1])
  (Stmt.seq
    (Stmt.seq
      (Stmt.region
        [SOper.mk (some 9) none (SOp.mv (Operand.tmp 0)), SOper.mk (some 10) none (SOp.len false (Operand.tmp 9)),
          SOper.mk (some 11) none (SOp.mv (Operand.const (Value.int IntKind.i64 0)))]
        [0, 1, 9, 10, 11])
      (Stmt.block 0 (Stmt.loop S26_1 [11] [0, 1, 9, 10])))
    (Stmt.seq
      (Stmt.seq
        (Stmt.region
          [SOper.mk (some 31) none (SOp.mv (Operand.tmp 0)), SOper.mk (some 32) none (SOp.len false (Operand.tmp 31)),
            SOper.mk (some 33) none (SOp.mv (Operand.tmp 1)), SOper.mk (some 34) none (SOp.len false (Operand.tmp 33)),
            SOper.mk (some 35) none (SOp.ibin BinOp.lss (Operand.tmp 32) (Operand.tmp 34))]
          [35])
        (Stmt.cond (Operand.tmp 35)
          (Stmt.seq (Stmt.region [SOper.mk (some 4) none (SOp.mv (Operand.const (Value.int IntKind.i64 (-1))))] [4])
            Stmt.ret)
          Stmt.skip))
      (Stmt.seq (Stmt.region [SOper.mk (some 4) none (SOp.mv (Operand.const (Value.int IntKind.i64 0)))] [4])
        Stmt.ret)))
def S26 : FnS := ⟨36, [(4, none)], S26_0⟩
theorem tr26 : trFn Try.prog 26 [] [[0, 1], [0, 1, 9, 10, 11], [11], [0, 1, 9, 10], [0, 1, 9, 10, 11, 12], [0, 1, 5, 6, 9, 10, 11], [0, 1, 5, 6, 9, 10, 11, 19], [4], [0, 1, 6, 7, 9, 10, 11], [0, 1, 8, 9, 10, 11], [0, 1, 8, 9, 10, 11, 28], [4], [0, 1, 9, 10, 11], [35], [4], [4]] = some S26 := by kernel_rfl
end Go.Proofs.Ytniobbepliknmaa.V
