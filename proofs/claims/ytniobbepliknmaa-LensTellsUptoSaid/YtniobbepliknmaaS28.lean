/- The text of slices.Equal[[]int,int] as a statement (slots: 0 s1, 1 s2, 2 s1, 3 s2, 5 i); no condition. -/
import Derived.Test.YtniobbepliknmaaVh
import Derived.Test.YtniobbepliknmaaProg
namespace Go.Proofs.Ytniobbepliknmaa.V
open Go
def S28_1 : Stmt :=
  Stmt.seq
  (Stmt.region [SOper.mk (some 14) none (SOp.ibin BinOp.lss (Operand.tmp 13) (Operand.tmp 12))] [0, 1, 12, 13, 14])
  (Stmt.seq (Stmt.cond (Operand.tmp 14) Stmt.skip (Stmt.exit 0))
    (Stmt.seq
      (Stmt.block 1
        (Stmt.seq
          (Stmt.region
            [SOper.mk (some 15) none (SOp.mv (Operand.tmp 13)), SOper.mk (some 5) none (SOp.mv (Operand.tmp 15))]
            [0, 1, 5, 12, 13])
          (Stmt.seq
            (Stmt.quiet
              [SOper.mk (some 16) none (SOp.mv (Operand.tmp 0)), SOper.mk (some 17) none (SOp.mv (Operand.tmp 5)),
                SOper.mk (some 18) none (SOp.idx 1 (Operand.tmp 16) (Operand.tmp 17)),
                SOper.mk (some 19) none (SOp.load false 1 (Operand.tmp 18)),
                SOper.mk (some 20) none (SOp.mv (Operand.tmp 1)), SOper.mk (some 21) none (SOp.mv (Operand.tmp 5)),
                SOper.mk (some 22) none (SOp.idx 1 (Operand.tmp 20) (Operand.tmp 21)),
                SOper.mk (some 23) none (SOp.load false 1 (Operand.tmp 22)),
                SOper.mk (some 24) none (SOp.ibin BinOp.neq (Operand.tmp 19) (Operand.tmp 23))]
              [0, 1, 12, 13, 24])
            (Stmt.cond (Operand.tmp 24)
              (Stmt.seq (Stmt.region [SOper.mk (some 4) none (SOp.mv (Operand.const (Value.bool false)))] [4]) Stmt.ret)
              Stmt.skip))))
      (Stmt.region
        [SOper.mk (some 25) none (SOp.ibin BinOp.add (Operand.tmp 13) (Operand.const (Value.int IntKind.i64 1))),
          SOper.mk (some 13) none (SOp.mv (Operand.tmp 25))]
        [0, 1, 12, 13])))
def S28_0 : Stmt :=
  Stmt.seq (Stmt.region [SOper.mk (some 4) none (SOp.mv (Operand.const (Value.bool false)))] [0, 1])
  (Stmt.seq
    (Stmt.seq
      (Stmt.region
        [SOper.mk (some 6) none (SOp.mv (Operand.tmp 0)), SOper.mk (some 7) none (SOp.len false (Operand.tmp 6)),
          SOper.mk (some 8) none (SOp.mv (Operand.tmp 1)), SOper.mk (some 9) none (SOp.len false (Operand.tmp 8)),
          SOper.mk (some 10) none (SOp.ibin BinOp.neq (Operand.tmp 7) (Operand.tmp 9))]
        [0, 1, 10])
      (Stmt.cond (Operand.tmp 10)
        (Stmt.seq (Stmt.region [SOper.mk (some 4) none (SOp.mv (Operand.const (Value.bool false)))] [4]) Stmt.ret)
        Stmt.skip))
    (Stmt.seq
      (Stmt.seq
        (Stmt.region
          [SOper.mk (some 11) none (SOp.mv (Operand.tmp 0)), SOper.mk (some 12) none (SOp.len false (Operand.tmp 11)),
            SOper.mk (some 13) none (SOp.mv (Operand.const (Value.int IntKind.i64 0)))]
          [0, 1, 12, 13])
        (Stmt.block 0 (Stmt.loop S28_1 [13] [0, 1, 12])))
      (Stmt.seq (Stmt.region [SOper.mk (some 4) none (SOp.mv (Operand.const (Value.bool true)))] [4]) Stmt.ret)))
def S28 : FnS := ⟨26, [(4, none)], S28_0⟩
theorem tr28 : trFn Try.prog 28 [] [[0, 1], [0, 1, 10], [4], [0, 1, 12, 13], [13], [0, 1, 12], [0, 1, 12, 13, 14], [0, 1, 5, 12, 13], [0, 1, 12, 13, 24], [4], [0, 1, 12, 13], [4]] = some S28 := by kernel_rfl
end Go.Proofs.Ytniobbepliknmaa.V
