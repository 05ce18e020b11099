/- The text of parlance/parllaw5.hard as a statement (slots: 0 a, 1 b, 2 a, 3 b); no condition. -/
import Derived.Test.YtniobbepliknmaaVh
import Derived.Test.YtniobbepliknmaaProg
namespace Go.Proofs.Ytniobbepliknmaa.V
open Go
def S33_0 : Stmt :=
  Stmt.seq
  (Stmt.region
    [SOper.mk (some 2) none (SOp.box false 3 (Operand.tmp 0)), SOper.mk (some 3) none (SOp.box false 3 (Operand.tmp 1)),
      SOper.mk (some 4) none (SOp.mv (Operand.const Value.nilFunc))]
    [2, 3])
  (Stmt.seq
    (Stmt.region
      [SOper.mk (some 5) none (SOp.mkFunc 108 [Operand.tmp 2, Operand.tmp 3]),
        SOper.mk (some 4) none (SOp.mv (Operand.tmp 5))]
      [4])
    Stmt.ret)
def S33 : FnS := ⟨6, [(4, none)], S33_0⟩
theorem tr33 : trFn Try.prog 33 [] [[2, 3], [4]] = some S33 := by kernel_rfl
end Go.Proofs.Ytniobbepliknmaa.V
