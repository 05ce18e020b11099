/- The text of parlance/shrink.Word as a statement (slots: 0 w, 1 fails, 2 w, 3 fails, 6 i, 7 v); no condition. -/
import Derived.Test.YtniobbepliknmaaVh
import Derived.Test.YtniobbepliknmaaProg
namespace Go.Proofs.Ytniobbepliknmaa.V
open Go
def S30_1 : Stmt :=
  Stmt.seq
  (Stmt.seq
    (Stmt.region
      [SOper.mk (some 22) none (SOp.mv (Operand.tmp 6)), SOper.mk (some 23) none (SOp.mv (Operand.tmp 0)),
        SOper.mk (some 24) none (SOp.len false (Operand.tmp 23)),
        SOper.mk (some 25) none (SOp.ibin BinOp.lss (Operand.tmp 22) (Operand.tmp 24))]
      [0, 1, 6, 25])
    (Stmt.cond (Operand.tmp 25) Stmt.skip (Stmt.exit 0)))
  (Stmt.block 1
    (Stmt.seq
      (Stmt.region
        [SOper.mk (some 26) none (SOp.mv (Operand.tmp 0)), SOper.mk (some 27) none (SOp.mv (Operand.tmp 6)),
          SOper.mk (some 28) none (SOp.call (Operand.func 106) [Operand.tmp 26, Operand.tmp 27]),
          SOper.mk (some 7) none (SOp.mv (Operand.tmp 28))]
        [0, 1, 6, 7])
      (Stmt.seq
        (Stmt.region
          [SOper.mk (some 29) none (SOp.mv (Operand.tmp 1)), SOper.mk (some 30) none (SOp.mv (Operand.tmp 7)),
            SOper.mk (some 31) none (SOp.mv (Operand.tmp 7)), SOper.mk (some 32) none (SOp.len false (Operand.tmp 31)),
            SOper.mk (some 33) none (SOp.call (Operand.func 106) [Operand.tmp 30, Operand.tmp 32]),
            SOper.mk (some 34) none (SOp.call (Operand.tmp 29) [Operand.tmp 33])]
          [0, 1, 6, 7, 34])
        (Stmt.cond (Operand.tmp 34)
          (Stmt.region
            [SOper.mk (some 35) none (SOp.mv (Operand.tmp 7)), SOper.mk (some 0) none (SOp.mv (Operand.tmp 35)),
              SOper.mk (some 6) none (SOp.mv (Operand.const (Value.int IntKind.i64 0)))]
            [0, 1, 6])
          (Stmt.region
            [SOper.mk (some 36) none (SOp.mv (Operand.tmp 6)),
              SOper.mk (some 37) none (SOp.ibin BinOp.add (Operand.tmp 36) (Operand.const (Value.int IntKind.i64 1))),
              SOper.mk (some 6) none (SOp.mv (Operand.tmp 37))]
            [0, 1, 6])))))
def S30_0 : Stmt :=
  Stmt.seq
  (Stmt.region
    [SOper.mk (some 4) none (SOp.mv (Operand.const (Value.slice none 0 0))),
      SOper.mk (some 5) none (SOp.mv (Operand.const (Value.int IntKind.i64 0)))]
    [0, 1])
  (Stmt.seq
    (Stmt.seq
      (Stmt.region
        [SOper.mk (some 8) none (SOp.mv (Operand.tmp 0)), SOper.mk (some 9) none (SOp.len false (Operand.tmp 8)),
          SOper.mk (some 10) none (SOp.ibin BinOp.gtr (Operand.tmp 9) (Operand.const (Value.int IntKind.i64 60)))]
        [0, 1, 10])
      (Stmt.cond (Operand.tmp 10)
        (Stmt.seq
          (Stmt.region
            [SOper.mk (some 4) none (SOp.mv (Operand.const (Value.slice none 0 0))),
              SOper.mk (some 5) none (SOp.mv (Operand.const (Value.int IntKind.i64 2)))]
            [4, 5])
          Stmt.ret)
        Stmt.skip))
    (Stmt.seq
      (Stmt.seq
        (Stmt.region
          [SOper.mk (some 11) none (SOp.mv (Operand.tmp 1)), SOper.mk (some 12) none (SOp.mv (Operand.tmp 0)),
            SOper.mk (some 13) none (SOp.mv (Operand.tmp 0)), SOper.mk (some 14) none (SOp.len false (Operand.tmp 13)),
            SOper.mk (some 15) none (SOp.call (Operand.func 106) [Operand.tmp 12, Operand.tmp 14]),
            SOper.mk (some 16) none (SOp.call (Operand.tmp 11) [Operand.tmp 15]),
            SOper.mk (some 17) none (SOp.un UnOp.not (Operand.tmp 16))]
          [0, 1, 17])
        (Stmt.cond (Operand.tmp 17)
          (Stmt.seq
            (Stmt.region
              [SOper.mk (some 4) none (SOp.mv (Operand.const (Value.slice none 0 0))),
                SOper.mk (some 5) none (SOp.mv (Operand.const (Value.int IntKind.i64 7)))]
              [4, 5])
            Stmt.ret)
          Stmt.skip))
      (Stmt.seq
        (Stmt.region
          [SOper.mk (some 18) none (SOp.mv (Operand.tmp 0)), SOper.mk (some 19) none (SOp.mv (Operand.tmp 0)),
            SOper.mk (some 20) none (SOp.len false (Operand.tmp 19)),
            SOper.mk (some 21) none (SOp.call (Operand.func 106) [Operand.tmp 18, Operand.tmp 20]),
            SOper.mk (some 0) none (SOp.mv (Operand.tmp 21))]
          [0, 1])
        (Stmt.seq
          (Stmt.seq (Stmt.region [SOper.mk (some 6) none (SOp.mv (Operand.const (Value.int IntKind.i64 0)))] [0, 1, 6])
            (Stmt.block 0 (Stmt.loop S30_1 [0, 6] [1])))
          (Stmt.seq
            (Stmt.region
              [SOper.mk (some 38) none (SOp.mv (Operand.tmp 0)), SOper.mk (some 4) none (SOp.mv (Operand.tmp 38)),
                SOper.mk (some 5) none (SOp.mv (Operand.const (Value.int IntKind.i64 0)))]
              [4, 5])
            Stmt.ret)))))
def S30 : FnS := ⟨39, [(4, none), (5, none)], S30_0⟩
theorem tr30 : trFn Try.prog 30 [] [[0, 1], [0, 1, 10], [4, 5], [0, 1, 17], [4, 5], [0, 1], [0, 1, 6], [0, 6], [1], [0, 1, 6, 25], [0, 1, 6, 7], [0, 1, 6, 7, 34], [0, 1, 6], [0, 1, 6], [4, 5]] = some S30 := by kernel_rfl
end Go.Proofs.Ytniobbepliknmaa.V
