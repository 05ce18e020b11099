/- The text of cmp.Compare[int] as a statement (slots: 0 x, 1 y, 2 x, 3 y, 5 xNaN, 6 yNaN); no condition. -/
import Derived.Test.YtniobbepliknmaaVh
import Derived.Test.YtniobbepliknmaaProg
namespace Go.Proofs.Ytniobbepliknmaa.V
open Go
def S105_0 : Stmt :=
  Stmt.seq (Stmt.region [SOper.mk (some 4) none (SOp.mv (Operand.const (Value.int IntKind.i64 0)))] [0, 1])
  (Stmt.seq
    (Stmt.region
      [SOper.mk (some 7) none (SOp.mv (Operand.tmp 0)),
        SOper.mk (some 8) none (SOp.call (Operand.func 170) [Operand.tmp 7]),
        SOper.mk (some 5) none (SOp.mv (Operand.tmp 8))]
      [0, 1, 5])
    (Stmt.seq
      (Stmt.region
        [SOper.mk (some 9) none (SOp.mv (Operand.tmp 1)),
          SOper.mk (some 10) none (SOp.call (Operand.func 170) [Operand.tmp 9]),
          SOper.mk (some 6) none (SOp.mv (Operand.tmp 10))]
        [0, 1, 5, 6])
      (Stmt.seq
        (Stmt.seq (Stmt.region [SOper.mk (some 11) none (SOp.mv (Operand.tmp 5))] [0, 1, 6, 11])
          (Stmt.cond (Operand.tmp 11)
            (Stmt.seq
              (Stmt.seq (Stmt.region [SOper.mk (some 12) none (SOp.mv (Operand.tmp 6))] [12])
                (Stmt.cond (Operand.tmp 12)
                  (Stmt.seq
                    (Stmt.region [SOper.mk (some 4) none (SOp.mv (Operand.const (Value.int IntKind.i64 0)))] [4])
                    Stmt.ret)
                  Stmt.skip))
              (Stmt.seq (Stmt.region [SOper.mk (some 4) none (SOp.mv (Operand.const (Value.int IntKind.i64 (-1))))] [4])
                Stmt.ret))
            Stmt.skip))
        (Stmt.seq
          (Stmt.seq (Stmt.region [SOper.mk (some 13) none (SOp.mv (Operand.tmp 6))] [0, 1, 13])
            (Stmt.cond (Operand.tmp 13)
              (Stmt.seq (Stmt.region [SOper.mk (some 4) none (SOp.mv (Operand.const (Value.int IntKind.i64 1)))] [4])
                Stmt.ret)
              Stmt.skip))
          (Stmt.seq
            (Stmt.seq
              (Stmt.region
                [SOper.mk (some 14) none (SOp.mv (Operand.tmp 0)), SOper.mk (some 15) none (SOp.mv (Operand.tmp 1)),
                  SOper.mk (some 16) none (SOp.ibin BinOp.lss (Operand.tmp 14) (Operand.tmp 15))]
                [0, 1, 16])
              (Stmt.cond (Operand.tmp 16)
                (Stmt.seq
                  (Stmt.region [SOper.mk (some 4) none (SOp.mv (Operand.const (Value.int IntKind.i64 (-1))))] [4])
                  Stmt.ret)
                Stmt.skip))
            (Stmt.seq
              (Stmt.seq
                (Stmt.region
                  [SOper.mk (some 17) none (SOp.mv (Operand.tmp 0)), SOper.mk (some 18) none (SOp.mv (Operand.tmp 1)),
                    SOper.mk (some 19) none (SOp.ibin BinOp.gtr (Operand.tmp 17) (Operand.tmp 18))]
                  [19])
                (Stmt.cond (Operand.tmp 19)
                  (Stmt.seq
                    (Stmt.region [SOper.mk (some 4) none (SOp.mv (Operand.const (Value.int IntKind.i64 1)))] [4])
                    Stmt.ret)
                  Stmt.skip))
              (Stmt.seq (Stmt.region [SOper.mk (some 4) none (SOp.mv (Operand.const (Value.int IntKind.i64 0)))] [4])
                Stmt.ret)))))))
def S105 : FnS := ⟨20, [(4, none)], S105_0⟩
theorem tr105 : trFn Try.prog 105 [] [[0, 1], [0, 1, 5], [0, 1, 5, 6], [0, 1, 6, 11], [12], [4], [4], [0, 1, 13], [4], [0, 1, 16], [4], [19], [4], [4]] = some S105 := by kernel_rfl
end Go.Proofs.Ytniobbepliknmaa.V
