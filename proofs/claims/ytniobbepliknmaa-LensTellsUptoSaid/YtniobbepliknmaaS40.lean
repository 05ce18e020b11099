/- The text of parlance/parllaw5.plain as a statement (slots: ); no condition. -/
import Derived.Test.YtniobbepliknmaaVh
import Derived.Test.YtniobbepliknmaaProg
namespace Go.Proofs.Ytniobbepliknmaa.V
open Go
def S40_0 : Stmt :=
  Stmt.seq
  (Stmt.region
    [SOper.mk (some 0) none
        (SOp.alloc true 57
          (Value.agg
            (Array.mk
              [Value.int IntKind.i64 0, Value.int IntKind.i64 0, Value.int IntKind.i64 0, Value.slice none 0 0])))]
    [0])
  (Stmt.seq
    (Stmt.region
      [SOper.mk (some 1) none
          (SOp.build 39 [Value.bool false, Value.int IntKind.i64 0] [(0, 1, Operand.const (Value.bool true))]),
        SOper.mk (some 2) none (SOp.buildS 39 1 [Value.bool false, Value.int IntKind.i64 0] [(0, 2, Operand.tmp 1)]),
        SOper.mk (some 3) none (SOp.build 37 [Value.int IntKind.i64 0, Value.slice none 0 0] [(1, 1, Operand.tmp 2)]),
        SOper.mk (some 4) none
          (SOp.build 39 [Value.bool false, Value.int IntKind.i64 0]
            [(0, 1, Operand.const (Value.bool true)), (1, 1, Operand.const (Value.int IntKind.i64 1))]),
        SOper.mk (some 5) none (SOp.build 39 [Value.bool false, Value.int IntKind.i64 0] []),
        SOper.mk (some 6) none
          (SOp.buildS 39 2 [Value.bool false, Value.int IntKind.i64 0, Value.bool false, Value.int IntKind.i64 0]
            [(0, 2, Operand.tmp 4), (2, 2, Operand.tmp 5)]),
        SOper.mk (some 7) none (SOp.build 37 [Value.int IntKind.i64 0, Value.slice none 0 0] [(1, 1, Operand.tmp 6)]),
        SOper.mk (some 8) none
          (SOp.buildS 37 2
            [Value.int IntKind.i64 0, Value.slice none 0 0, Value.int IntKind.i64 0, Value.slice none 0 0]
            [(0, 2, Operand.tmp 3), (2, 2, Operand.tmp 7)]),
        SOper.mk (some 9) none
          (SOp.build 57
            [Value.int IntKind.i64 0, Value.int IntKind.i64 0, Value.int IntKind.i64 0, Value.slice none 0 0]
            [(0, 1, Operand.const (Value.int IntKind.i64 2)), (1, 1, Operand.const (Value.int IntKind.i64 1)),
              (3, 1, Operand.tmp 8)]),
        SOper.mk none none (SOp.store 4 (Operand.tmp 0) (Operand.tmp 9))]
      [0])
    Stmt.ret)
def S40 : FnS := ⟨10, [(0, some (true, 4))], S40_0⟩
theorem tr40 : trFn Try.prog 40 [0] [[0], [0]] = some S40 := by kernel_rfl
end Go.Proofs.Ytniobbepliknmaa.V
