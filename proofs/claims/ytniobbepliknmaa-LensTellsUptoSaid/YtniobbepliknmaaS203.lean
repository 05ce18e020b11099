/- The text of parlance/gram.Order as a statement (slots: 0 a, 1 b, 2 a, 3 b); no condition. -/
import Derived.Test.YtniobbepliknmaaVh
import Derived.Test.YtniobbepliknmaaProg
namespace Go.Proofs.Ytniobbepliknmaa.V
open Go
def S203_0 : Stmt :=
  Stmt.seq
  (Stmt.region
    [SOper.mk (some 2) none (SOp.box true 39 (Operand.tmp 0)), SOper.mk (some 3) none (SOp.box true 39 (Operand.tmp 1)),
      SOper.mk (some 4) none (SOp.mv (Operand.const (Value.int IntKind.i64 0)))]
    [2, 3])
  (Stmt.seq
    (Stmt.block 0
      (Stmt.seq
        (Stmt.region
          [SOper.mk (some 6) none (SOp.fld 0 (Operand.tmp 2)),
            SOper.mk (some 7) none (SOp.load false 1 (Operand.tmp 6)), SOper.mk (some 8) none (SOp.mv (Operand.tmp 7)),
            SOper.mk (some 9) (some (8, true)) (SOp.fld 0 (Operand.tmp 3)),
            SOper.mk (some 10) (some (8, true)) (SOp.load false 1 (Operand.tmp 9)),
            SOper.mk (some 11) (some (8, true)) (SOp.un UnOp.not (Operand.tmp 10)),
            SOper.mk (some 12) none (SOp.pick (Operand.tmp 8) (Operand.tmp 11) (Operand.const (Value.bool false))),
            SOper.mk (some 5) none (SOp.mv (Operand.tmp 12))]
          [2, 3, 5])
        (Stmt.cond (Operand.tmp 5)
          (Stmt.seq (Stmt.region [SOper.mk (some 4) none (SOp.mv (Operand.const (Value.int IntKind.i64 (-1))))] [4])
            Stmt.ret)
          (Stmt.seq
            (Stmt.region
              [SOper.mk (some 14) none (SOp.fld 0 (Operand.tmp 2)),
                SOper.mk (some 15) none (SOp.load false 1 (Operand.tmp 14)),
                SOper.mk (some 16) none (SOp.un UnOp.not (Operand.tmp 15)),
                SOper.mk (some 17) none (SOp.mv (Operand.tmp 16)),
                SOper.mk (some 18) (some (17, true)) (SOp.fld 0 (Operand.tmp 3)),
                SOper.mk (some 19) (some (17, true)) (SOp.load false 1 (Operand.tmp 18)),
                SOper.mk (some 20) none (SOp.pick (Operand.tmp 17) (Operand.tmp 19) (Operand.const (Value.bool false))),
                SOper.mk (some 13) none (SOp.mv (Operand.tmp 20))]
              [2, 3, 13])
            (Stmt.cond (Operand.tmp 13)
              (Stmt.seq (Stmt.region [SOper.mk (some 4) none (SOp.mv (Operand.const (Value.int IntKind.i64 1)))] [4])
                Stmt.ret)
              Stmt.skip)))))
    (Stmt.seq
      (Stmt.region
        [SOper.mk (some 21) none (SOp.fld 1 (Operand.tmp 2)),
          SOper.mk (some 22) none (SOp.load false 1 (Operand.tmp 21)),
          SOper.mk (some 23) none (SOp.fld 1 (Operand.tmp 3)),
          SOper.mk (some 24) none (SOp.load false 1 (Operand.tmp 23)),
          SOper.mk (some 25) none (SOp.call (Operand.func 105) [Operand.tmp 22, Operand.tmp 24]),
          SOper.mk (some 4) none (SOp.mv (Operand.tmp 25))]
        [4])
      Stmt.ret))
def S203 : FnS := ⟨26, [(4, none)], S203_0⟩
theorem tr203 : trFn Try.prog 203 [2, 3] [[2, 3], [2, 3, 5], [4], [2, 3, 13], [4], [4]] = some S203 := by kernel_rfl
end Go.Proofs.Ytniobbepliknmaa.V
