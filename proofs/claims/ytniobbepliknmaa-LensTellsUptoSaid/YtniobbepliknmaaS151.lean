/- The text of parlance/parlref5.grid[bool] as a statement (slots: 0 a, 1 b, 2 a, 3 b, 5 out, 6 i); no condition. -/
import Derived.Test.YtniobbepliknmaaVh
import Derived.Test.YtniobbepliknmaaProg
namespace Go.Proofs.Ytniobbepliknmaa.V
open Go
def S151_1 : Stmt :=
  Stmt.seq
  (Stmt.region [SOper.mk (some 12) none (SOp.ibin BinOp.lss (Operand.tmp 11) (Operand.tmp 10))] [1, 5, 10, 11, 12])
  (Stmt.seq (Stmt.cond (Operand.tmp 12) Stmt.skip (Stmt.exit 0))
    (Stmt.seq
      (Stmt.block 1
        (Stmt.seq
          (Stmt.region
            [SOper.mk (some 13) none (SOp.mv (Operand.tmp 11)), SOper.mk (some 6) none (SOp.mv (Operand.tmp 13))]
            [1, 5, 6, 10, 11])
          (Stmt.region
            [SOper.mk (some 14) none (SOp.mv (Operand.tmp 5)), SOper.mk (some 15) none (SOp.mv (Operand.tmp 6)),
              SOper.mk (some 16) none (SOp.mv (Operand.tmp 1)),
              SOper.mk (some 17) none (SOp.mk 4 1 1 (Value.bool false) (Operand.tmp 16) (Operand.tmp 16)),
              SOper.mk (some 18) none (SOp.idx 1 (Operand.tmp 14) (Operand.tmp 15)),
              SOper.mk none none (SOp.store 1 (Operand.tmp 18) (Operand.tmp 17))]
            [1, 5, 10, 11])))
      (Stmt.region
        [SOper.mk (some 19) none (SOp.ibin BinOp.add (Operand.tmp 11) (Operand.const (Value.int IntKind.i64 1))),
          SOper.mk (some 11) none (SOp.mv (Operand.tmp 19))]
        [1, 5, 10, 11])))
def S151_0 : Stmt :=
  Stmt.seq (Stmt.region [SOper.mk (some 4) none (SOp.mv (Operand.const (Value.slice none 0 0)))] [0, 1])
  (Stmt.seq
    (Stmt.region
      [SOper.mk (some 7) none (SOp.mv (Operand.tmp 0)),
        SOper.mk (some 8) none (SOp.mk 22 1 24 (Value.slice none 0 0) (Operand.tmp 7) (Operand.tmp 7)),
        SOper.mk (some 5) none (SOp.mv (Operand.tmp 8))]
      [1, 5])
    (Stmt.seq
      (Stmt.seq
        (Stmt.region
          [SOper.mk (some 9) none (SOp.mv (Operand.tmp 5)), SOper.mk (some 10) none (SOp.len false (Operand.tmp 9)),
            SOper.mk (some 11) none (SOp.mv (Operand.const (Value.int IntKind.i64 0)))]
          [1, 5, 10, 11])
        (Stmt.block 0 (Stmt.loop S151_1 [11] [1, 5, 10])))
      (Stmt.seq
        (Stmt.region
          [SOper.mk (some 20) none (SOp.mv (Operand.tmp 5)), SOper.mk (some 4) none (SOp.mv (Operand.tmp 20))] [4])
        Stmt.ret)))
def S151 : FnS := ⟨21, [(4, none)], S151_0⟩
theorem tr151 : trFn Try.prog 151 [] [[0, 1], [1, 5], [1, 5, 10, 11], [11], [1, 5, 10], [1, 5, 10, 11, 12], [1, 5, 6, 10, 11], [1, 5, 10, 11], [1, 5, 10, 11], [4]] = some S151 := by kernel_rfl
end Go.Proofs.Ytniobbepliknmaa.V
