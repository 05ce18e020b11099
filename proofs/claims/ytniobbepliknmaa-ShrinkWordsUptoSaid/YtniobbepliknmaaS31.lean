/- The text of parlance/parllaw5.ShrinkWords$1 as a statement (slots: 0 v, 1 v); no condition. -/
import Derived.Test.YtniobbepliknmaaVh
import Derived.Test.YtniobbepliknmaaProg
namespace Go.Proofs.Ytniobbepliknmaa.V
open Go
def S31_0 : Stmt :=
  Stmt.seq (Stmt.region [SOper.mk (some 2) none (SOp.mv (Operand.const (Value.bool false)))] [0])
  (Stmt.seq
    (Stmt.region
      [SOper.mk (some 3) none (SOp.mv (Operand.tmp 0)),
        SOper.mk (some 4) none (SOp.call (Operand.func 32) [Operand.tmp 3, Operand.const (Value.int IntKind.i64 2)]),
        SOper.mk (some 2) none (SOp.mv (Operand.tmp 4))]
      [2])
    Stmt.ret)
def S31 : FnS := ⟨5, [(2, none)], S31_0⟩
theorem tr31 : trFn Try.prog 31 [] [[0], [2]] = some S31 := by kernel_rfl
end Go.Proofs.Ytniobbepliknmaa.V
