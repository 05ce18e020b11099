/- The text of parlance/shrink.without as a statement (slots: 0 w, 1 i, 2 w, 3 i, 5 out, 6 k, 7 x); no condition. -/
import Derived.Test.YtniobbepliknmaaVh
import Derived.Test.YtniobbepliknmaaProg
namespace Go.Proofs.Ytniobbepliknmaa.V
open Go
def S106_1 : Stmt :=
  Stmt.block 1
  (Stmt.seq
    (Stmt.region
      [SOper.mk (some 15) none (SOp.mv (Operand.tmp 13)),
        SOper.mk (some 16) none (SOp.idx 1 (Operand.tmp 11) (Operand.tmp 13)),
        SOper.mk (some 17) none (SOp.load false 1 (Operand.tmp 16)), SOper.mk (some 6) none (SOp.mv (Operand.tmp 15)),
        SOper.mk (some 7) none (SOp.mv (Operand.tmp 17))]
      [1, 5, 6, 7, 11, 12, 13])
    (Stmt.seq
      (Stmt.region
        [SOper.mk (some 18) none (SOp.mv (Operand.tmp 6)), SOper.mk (some 19) none (SOp.mv (Operand.tmp 1)),
          SOper.mk (some 20) none (SOp.ibin BinOp.neq (Operand.tmp 18) (Operand.tmp 19))]
        [1, 5, 7, 11, 12, 13, 20])
      (Stmt.cond (Operand.tmp 20)
        (Stmt.region
          [SOper.mk (some 21) none (SOp.mv (Operand.tmp 5)), SOper.mk (some 22) none (SOp.mv (Operand.tmp 7)),
            SOper.mk (some 23) none (SOp.buildS 3 1 [Value.int IntKind.i64 0] [(0, 1, Operand.tmp 22)]),
            SOper.mk (some 24) none (SOp.append 29 3 1 8 (Value.int IntKind.i64 0) (Operand.tmp 21) (Operand.tmp 23)),
            SOper.mk (some 5) none (SOp.mv (Operand.tmp 24))]
          [1, 5, 11, 12, 13])
        Stmt.skip)))
def S106_2 : Stmt :=
  Stmt.region
  [SOper.mk (some 25) none (SOp.ibin BinOp.add (Operand.tmp 13) (Operand.const (Value.int IntKind.i64 1))),
    SOper.mk (some 13) none (SOp.mv (Operand.tmp 25))]
  [1, 5, 11, 12, 13]
def S106_3 : Stmt :=
  Stmt.seq
  (Stmt.region [SOper.mk (some 14) none (SOp.ibin BinOp.lss (Operand.tmp 13) (Operand.tmp 12))] [1, 5, 11, 12, 13, 14])
  (Stmt.seq (Stmt.cond (Operand.tmp 14) Stmt.skip (Stmt.exit 0)) (Stmt.join S106_1 S106_2 [5] [1, 11, 12, 13]))
def S106_0 : Stmt :=
  Stmt.seq (Stmt.region [SOper.mk (some 4) none (SOp.mv (Operand.const (Value.slice none 0 0)))] [0, 1])
  (Stmt.seq
    (Stmt.region
      [SOper.mk (some 8) none (SOp.mv (Operand.tmp 0)), SOper.mk (some 9) none (SOp.len false (Operand.tmp 8)),
        SOper.mk (some 10) none
          (SOp.mk 3 1 8 (Value.int IntKind.i64 0) (Operand.const (Value.int IntKind.i64 0)) (Operand.tmp 9)),
        SOper.mk (some 5) none (SOp.mv (Operand.tmp 10))]
      [0, 1, 5])
    (Stmt.seq
      (Stmt.seq
        (Stmt.region
          [SOper.mk (some 11) none (SOp.mv (Operand.tmp 0)), SOper.mk (some 12) none (SOp.len false (Operand.tmp 11)),
            SOper.mk (some 13) none (SOp.mv (Operand.const (Value.int IntKind.i64 0)))]
          [1, 5, 11, 12, 13])
        (Stmt.block 0 (Stmt.loop S106_3 [5, 13] [1, 11, 12])))
      (Stmt.seq
        (Stmt.region
          [SOper.mk (some 26) none (SOp.mv (Operand.tmp 5)), SOper.mk (some 4) none (SOp.mv (Operand.tmp 26))] [4])
        Stmt.ret)))
def S106 : FnS := ⟨27, [(4, none)], S106_0⟩
theorem tr106 : trFn Try.prog 106 [] [[0, 1], [0, 1, 5], [1, 5, 11, 12, 13], [5, 13], [1, 11, 12], [1, 5, 11, 12, 13, 14], [5], [1, 11, 12, 13], [1, 5, 6, 7, 11, 12, 13], [1, 5, 7, 11, 12, 13, 20], [1, 5, 11, 12, 13], [1, 5, 11, 12, 13], [4]] = some S106 := by kernel_rfl
end Go.Proofs.Ytniobbepliknmaa.V
