/- The text of parlance/parllaw5.hard$1 as a statement (slots: 0 w, 3 w, 5 n, 6 i, 7 x); no condition. -/
import Derived.Test.YtniobbepliknmaaVh
import Derived.Test.YtniobbepliknmaaProg
namespace Go.Proofs.Ytniobbepliknmaa.V
open Go
def S108_1 : Stmt :=
  Stmt.seq
  (Stmt.region [SOper.mk (some 11) none (SOp.ibin BinOp.lss (Operand.tmp 10) (Operand.tmp 9))]
    [0, 1, 2, 5, 8, 9, 10, 11])
  (Stmt.seq (Stmt.cond (Operand.tmp 11) Stmt.skip (Stmt.exit 0))
    (Stmt.seq
      (Stmt.block 1
        (Stmt.seq
          (Stmt.region
            [SOper.mk (some 12) none (SOp.mv (Operand.tmp 10)),
              SOper.mk (some 13) none (SOp.idx 1 (Operand.tmp 8) (Operand.tmp 10)),
              SOper.mk (some 14) none (SOp.load false 1 (Operand.tmp 13)),
              SOper.mk (some 6) none (SOp.mv (Operand.tmp 12)), SOper.mk (some 7) none (SOp.mv (Operand.tmp 14))]
            [0, 1, 2, 5, 6, 7, 8, 9, 10])
          (Stmt.region
            [SOper.mk (some 15) none (SOp.mv (Operand.tmp 5)), SOper.mk (some 16) none (SOp.mv (Operand.tmp 7)),
              SOper.mk (some 17) none (SOp.mv (Operand.tmp 6)),
              SOper.mk (some 18) none (SOp.idiv BinOp.rem (Operand.tmp 17) (Operand.const (Value.int IntKind.i64 2))),
              SOper.mk (some 19) none (SOp.ibin BinOp.add (Operand.const (Value.int IntKind.i64 1)) (Operand.tmp 18)),
              SOper.mk (some 20) none (SOp.ibin BinOp.mul (Operand.tmp 16) (Operand.tmp 19)),
              SOper.mk (some 21) none (SOp.ibin BinOp.add (Operand.tmp 15) (Operand.tmp 20)),
              SOper.mk (some 5) none (SOp.mv (Operand.tmp 21))]
            [0, 1, 2, 5, 8, 9, 10])))
      (Stmt.region
        [SOper.mk (some 22) none (SOp.ibin BinOp.add (Operand.tmp 10) (Operand.const (Value.int IntKind.i64 1))),
          SOper.mk (some 10) none (SOp.mv (Operand.tmp 22))]
        [0, 1, 2, 5, 8, 9, 10])))
def S108_0 : Stmt :=
  Stmt.seq (Stmt.region [SOper.mk (some 4) none (SOp.mv (Operand.const (Value.bool false)))] [0, 1, 2])
  (Stmt.seq (Stmt.region [SOper.mk (some 5) none (SOp.mv (Operand.const (Value.int IntKind.i64 0)))] [0, 1, 2, 5])
    (Stmt.seq
      (Stmt.seq
        (Stmt.region
          [SOper.mk (some 8) none (SOp.mv (Operand.tmp 0)), SOper.mk (some 9) none (SOp.len false (Operand.tmp 8)),
            SOper.mk (some 10) none (SOp.mv (Operand.const (Value.int IntKind.i64 0)))]
          [0, 1, 2, 5, 8, 9, 10])
        (Stmt.block 0 (Stmt.loop S108_1 [5, 10] [0, 1, 2, 8, 9])))
      (Stmt.seq
        (Stmt.region
          [SOper.mk (some 23) none (SOp.mv (Operand.tmp 0)), SOper.mk (some 24) none (SOp.len false (Operand.tmp 23)),
            SOper.mk (some 25) none (SOp.ibin BinOp.gtr (Operand.tmp 24) (Operand.const (Value.int IntKind.i64 0))),
            SOper.mk (some 26) none (SOp.mv (Operand.tmp 25)),
            SOper.mk (some 27) (some (26, true)) (SOp.mv (Operand.tmp 5)),
            SOper.mk (some 28) (some (26, true)) (SOp.mv (Operand.tmp 0)),
            SOper.mk (some 29) (some (26, true)) (SOp.len false (Operand.tmp 28)),
            SOper.mk (some 30) (some (26, true)) (SOp.load false 1 (Operand.tmp 1)),
            SOper.mk (some 31) (some (26, true)) (SOp.ibin BinOp.mul (Operand.tmp 29) (Operand.tmp 30)),
            SOper.mk (some 32) (some (26, true)) (SOp.ibin BinOp.add (Operand.tmp 27) (Operand.tmp 31)),
            SOper.mk (some 33) (some (26, true))
              (SOp.idiv BinOp.rem (Operand.tmp 32) (Operand.const (Value.int IntKind.i64 3))),
            SOper.mk (some 34) (some (26, true)) (SOp.load false 1 (Operand.tmp 2)),
            SOper.mk (some 35) (some (26, true))
              (SOp.idiv BinOp.rem (Operand.tmp 34) (Operand.const (Value.int IntKind.i64 3))),
            SOper.mk (some 36) (some (26, true))
              (SOp.ibin BinOp.add (Operand.tmp 35) (Operand.const (Value.int IntKind.i64 3))),
            SOper.mk (some 37) (some (26, true))
              (SOp.idiv BinOp.rem (Operand.tmp 36) (Operand.const (Value.int IntKind.i64 3))),
            SOper.mk (some 38) (some (26, true)) (SOp.ibin BinOp.eql (Operand.tmp 33) (Operand.tmp 37)),
            SOper.mk (some 39) none (SOp.pick (Operand.tmp 26) (Operand.tmp 38) (Operand.const (Value.bool false))),
            SOper.mk (some 4) none (SOp.mv (Operand.tmp 39))]
          [4])
        Stmt.ret)))
def S108 : FnS := ⟨40, [(4, none)], S108_0⟩
theorem tr108 : trFn Try.prog 108 [] [[0, 1, 2], [0, 1, 2, 5], [0, 1, 2, 5, 8, 9, 10], [5, 10], [0, 1, 2, 8, 9], [0, 1, 2, 5, 8, 9, 10, 11], [0, 1, 2, 5, 6, 7, 8, 9, 10], [0, 1, 2, 5, 8, 9, 10], [0, 1, 2, 5, 8, 9, 10], [4]] = some S108 := by kernel_rfl
end Go.Proofs.Ytniobbepliknmaa.V
