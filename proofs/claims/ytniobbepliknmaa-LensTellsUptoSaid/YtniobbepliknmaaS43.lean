/- The text of parlance/parlref5.Lens as a statement (slots: 0 g, 1 n, 2 g, 3 n); no condition. -/
import Derived.Test.YtniobbepliknmaaVh
import Derived.Test.YtniobbepliknmaaProg
namespace Go.Proofs.Ytniobbepliknmaa.V
open Go
def S43_0 : Stmt :=
  Stmt.seq
  (Stmt.region
    [SOper.mk (some 2) none (SOp.box true 57 (Operand.tmp 0)),
      SOper.mk (some 4) none (SOp.mv (Operand.const (Value.slice none 0 0)))]
    [1, 2])
  (Stmt.seq
    (Stmt.drawn
      [(false, SOper.mk (some 5) none (SOp.load true 4 (Operand.tmp 2))),
        (false, SOper.mk (some 6) none (SOp.mv (Operand.tmp 1))),
        (false, SOper.mk (some 8) none (SOp.fld 2 (Operand.tmp 2))),
        (true, SOper.mk (some 9) none (SOp.load false 1 (Operand.tmp 8))),
        (false, SOper.mk (some 7) none (SOp.call (Operand.func 114) [Operand.tmp 5, Operand.tmp 6])),
        (false, SOper.mk (some 10) none (SOp.idx 1 (Operand.tmp 7) (Operand.tmp 9))),
        (false, SOper.mk (some 11) none (SOp.load false 1 (Operand.tmp 10))),
        (false, SOper.mk (some 4) none (SOp.mv (Operand.tmp 11)))]
      [4])
    Stmt.ret)
def S43 : FnS := ⟨12, [(4, none)], S43_0⟩
theorem tr43 : trFn Try.prog 43 [2] [[1, 2], [4], [0, 1, 3, 4, 2, 5, 6, 7], [4], [], [], [0, 1], [], [3], [0, 1, 2, 3, 4], [0, 1, 2, 3, 4, 5], [0, 1, 2, 3, 4, 5, 6]] = some S43 := by kernel_rfl
end Go.Proofs.Ytniobbepliknmaa.V
