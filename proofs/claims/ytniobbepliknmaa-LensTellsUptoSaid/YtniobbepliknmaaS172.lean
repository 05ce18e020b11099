/- The text of parlance/gram.Compare as a statement (slots: 0 a, 1 b, 2 a, 3 b, 5 c); no condition. -/
import Derived.Test.YtniobbepliknmaaVh
import Derived.Test.YtniobbepliknmaaProg
namespace Go.Proofs.Ytniobbepliknmaa.V
open Go
def S172_0 : Stmt :=
  Stmt.seq
  (Stmt.region
    [SOper.mk (some 2) none (SOp.box true 37 (Operand.tmp 0)), SOper.mk (some 3) none (SOp.box true 37 (Operand.tmp 1)),
      SOper.mk (some 4) none (SOp.mv (Operand.const (Value.int IntKind.i64 0)))]
    [2, 3])
  (Stmt.seq
    (Stmt.seq
      (Stmt.region
        [SOper.mk (some 6) none (SOp.fld 0 (Operand.tmp 2)), SOper.mk (some 7) none (SOp.load false 1 (Operand.tmp 6)),
          SOper.mk (some 8) none (SOp.fld 0 (Operand.tmp 3)), SOper.mk (some 9) none (SOp.load false 1 (Operand.tmp 8)),
          SOper.mk (some 10) none (SOp.call (Operand.func 105) [Operand.tmp 7, Operand.tmp 9]),
          SOper.mk (some 5) none (SOp.mv (Operand.tmp 10))]
        [2, 3, 5])
      (Stmt.seq
        (Stmt.region
          [SOper.mk (some 11) none (SOp.mv (Operand.tmp 5)),
            SOper.mk (some 12) none (SOp.ibin BinOp.neq (Operand.tmp 11) (Operand.const (Value.int IntKind.i64 0)))]
          [2, 3, 5, 12])
        (Stmt.cond (Operand.tmp 12)
          (Stmt.seq
            (Stmt.region
              [SOper.mk (some 13) none (SOp.mv (Operand.tmp 5)), SOper.mk (some 4) none (SOp.mv (Operand.tmp 13))] [4])
            Stmt.ret)
          Stmt.skip)))
    (Stmt.seq
      (Stmt.region
        [SOper.mk (some 14) none (SOp.fld 1 (Operand.tmp 2)),
          SOper.mk (some 15) none (SOp.load false 1 (Operand.tmp 14)),
          SOper.mk (some 16) none (SOp.fld 1 (Operand.tmp 3)),
          SOper.mk (some 17) none (SOp.load false 1 (Operand.tmp 16)),
          SOper.mk (some 18) none (SOp.call (Operand.func 202) [Operand.tmp 15, Operand.tmp 17, Operand.func 203]),
          SOper.mk (some 4) none (SOp.mv (Operand.tmp 18))]
        [4])
      Stmt.ret))
def S172 : FnS := ⟨19, [(4, none)], S172_0⟩
theorem tr172 : trFn Try.prog 172 [2, 3] [[2, 3], [2, 3, 5], [2, 3, 5, 12], [4], [4]] = some S172 := by kernel_rfl
end Go.Proofs.Ytniobbepliknmaa.V
