/- The text of slices.Clone[[]int,int] as a statement (slots: 0 s, 1 s); no condition. -/
import Derived.Test.YtniobbepliknmaaVh
import Derived.Test.YtniobbepliknmaaProg
namespace Go.Proofs.Ytniobbepliknmaa.V
open Go
def S111_0 : Stmt :=
  Stmt.seq (Stmt.region [SOper.mk (some 2) none (SOp.mv (Operand.const (Value.slice none 0 0)))] [0])
  (Stmt.seq
    (Stmt.seq
      (Stmt.region
        [SOper.mk (some 3) none (SOp.mv (Operand.tmp 0)),
          SOper.mk (some 4) none (SOp.nilq 0 false (Operand.tmp 3) (Operand.const (Value.slice none 0 0)))]
        [0, 4])
      (Stmt.cond (Operand.tmp 4)
        (Stmt.seq (Stmt.region [SOper.mk (some 2) none (SOp.mv (Operand.const (Value.slice none 0 0)))] [2]) Stmt.ret)
        Stmt.skip))
    (Stmt.seq
      (Stmt.region
        [SOper.mk (some 5) none (SOp.buildS 3 0 [] []), SOper.mk (some 6) none (SOp.mv (Operand.tmp 0)),
          SOper.mk (some 7) none (SOp.append 29 3 1 8 (Value.int IntKind.i64 0) (Operand.tmp 5) (Operand.tmp 6)),
          SOper.mk (some 2) none (SOp.mv (Operand.tmp 7))]
        [2])
      Stmt.ret))
def S111 : FnS := ⟨8, [(2, none)], S111_0⟩
theorem tr111 : trFn Try.prog 111 [] [[0], [0, 4], [2], [2]] = some S111 := by kernel_rfl
end Go.Proofs.Ytniobbepliknmaa.V
