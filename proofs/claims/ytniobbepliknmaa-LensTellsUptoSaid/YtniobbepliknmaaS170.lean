/- The text of cmp.isNaN[int] as a statement (slots: 0 x, 1 x); no condition. -/
import Derived.Test.YtniobbepliknmaaVh
import Derived.Test.YtniobbepliknmaaProg
namespace Go.Proofs.Ytniobbepliknmaa.V
open Go
def S170_0 : Stmt :=
  Stmt.seq (Stmt.region [SOper.mk (some 2) none (SOp.mv (Operand.const (Value.bool false)))] [0])
  (Stmt.seq
    (Stmt.region
      [SOper.mk (some 3) none (SOp.mv (Operand.tmp 0)), SOper.mk (some 4) none (SOp.mv (Operand.tmp 0)),
        SOper.mk (some 5) none (SOp.ibin BinOp.neq (Operand.tmp 3) (Operand.tmp 4)),
        SOper.mk (some 2) none (SOp.mv (Operand.tmp 5))]
      [2])
    Stmt.ret)
def S170 : FnS := ⟨6, [(2, none)], S170_0⟩
theorem tr170 : trFn Try.prog 170 [] [[0], [2]] = some S170 := by kernel_rfl
end Go.Proofs.Ytniobbepliknmaa.V
