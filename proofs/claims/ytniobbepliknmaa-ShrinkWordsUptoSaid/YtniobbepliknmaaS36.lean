/- The text of parlance/parllaw5.ShrinkWords$2 as a statement (slots: 0 x, 1 x); no condition. -/
import Derived.Test.YtniobbepliknmaaVh
import Derived.Test.YtniobbepliknmaaProg
namespace Go.Proofs.Ytniobbepliknmaa.V
open Go
def S36_0 : Stmt :=
  Stmt.seq (Stmt.region [SOper.mk (some 2) none (SOp.mv (Operand.const (Value.bool false)))] [0])
  (Stmt.seq
    (Stmt.region
      [SOper.mk (some 3) none (SOp.mv (Operand.tmp 0)),
        SOper.mk (some 4) none (SOp.ibin BinOp.lss (Operand.tmp 3) (Operand.const (Value.int IntKind.i64 0))),
        SOper.mk (some 5) none (SOp.mv (Operand.tmp 4)), SOper.mk (some 6) (some (5, false)) (SOp.mv (Operand.tmp 0)),
        SOper.mk (some 7) (some (5, false))
          (SOp.ibin BinOp.gtr (Operand.tmp 6) (Operand.const (Value.int IntKind.i64 7))),
        SOper.mk (some 8) none (SOp.pick (Operand.tmp 5) (Operand.const (Value.bool true)) (Operand.tmp 7)),
        SOper.mk (some 2) none (SOp.mv (Operand.tmp 8))]
      [2])
    Stmt.ret)
def S36 : FnS := ⟨9, [(2, none)], S36_0⟩
theorem tr36 : trFn Try.prog 36 [] [[0], [2]] = some S36 := by kernel_rfl
end Go.Proofs.Ytniobbepliknmaa.V
