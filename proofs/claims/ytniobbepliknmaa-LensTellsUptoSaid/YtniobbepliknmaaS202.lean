/- The text of slices.CompareFunc[[]parlance/api.Sym,[]parlance/api.Sym,parlance/api.Sym,parlance/api.Sym] as a statement (slots: 0 s1, 1 s2, 2 cmp, 3 s1, 4 s2, 5 cmp, 7 i, 8 v1, 9 v2, 10 c); no condition. -/
import Derived.Test.YtniobbepliknmaaVh
import Derived.Test.YtniobbepliknmaaProg
namespace Go.Proofs.Ytniobbepliknmaa.V
open Go
def S202_1 : Stmt :=
  Stmt.seq
  (Stmt.region [SOper.mk (some 14) none (SOp.ibin BinOp.lss (Operand.tmp 13) (Operand.tmp 12))]
    [0, 1, 2, 11, 12, 13, 14])
  (Stmt.seq (Stmt.cond (Operand.tmp 14) Stmt.skip (Stmt.exit 0))
    (Stmt.seq
      (Stmt.block 1
        (Stmt.seq
          (Stmt.region
            [SOper.mk (some 15) none (SOp.mv (Operand.tmp 13)),
              SOper.mk (some 16) none (SOp.idx 2 (Operand.tmp 11) (Operand.tmp 13)),
              SOper.mk (some 17) none (SOp.load true 2 (Operand.tmp 16)),
              SOper.mk (some 8) none
                (SOp.alloc true 39 (Value.agg (Array.mk [Value.bool false, Value.int IntKind.i64 0]))),
              SOper.mk (some 7) none (SOp.mv (Operand.tmp 15)),
              SOper.mk none none (SOp.store 2 (Operand.tmp 8) (Operand.tmp 17))]
            [0, 1, 2, 7, 8, 11, 12, 13])
          (Stmt.seq
            (Stmt.seq
              (Stmt.region
                [SOper.mk (some 18) none (SOp.mv (Operand.tmp 7)), SOper.mk (some 19) none (SOp.mv (Operand.tmp 1)),
                  SOper.mk (some 20) none (SOp.len false (Operand.tmp 19)),
                  SOper.mk (some 21) none (SOp.ibin BinOp.geq (Operand.tmp 18) (Operand.tmp 20))]
                [0, 1, 2, 7, 8, 11, 12, 13, 21])
              (Stmt.cond (Operand.tmp 21)
                (Stmt.seq (Stmt.region [SOper.mk (some 6) none (SOp.mv (Operand.const (Value.int IntKind.i64 1)))] [6])
                  Stmt.ret)
                Stmt.skip))
            (Stmt.seq
              (Stmt.region
                [SOper.mk (some 22) none (SOp.mv (Operand.tmp 1)), SOper.mk (some 23) none (SOp.mv (Operand.tmp 7)),
                  SOper.mk (some 24) none (SOp.idx 2 (Operand.tmp 22) (Operand.tmp 23)),
                  SOper.mk (some 25) none (SOp.load true 2 (Operand.tmp 24)),
                  SOper.mk (some 9) none
                    (SOp.alloc true 39 (Value.agg (Array.mk [Value.bool false, Value.int IntKind.i64 0]))),
                  SOper.mk none none (SOp.store 2 (Operand.tmp 9) (Operand.tmp 25))]
                [0, 1, 2, 8, 9, 11, 12, 13])
              (Stmt.seq
                (Stmt.region
                  [SOper.mk (some 26) none (SOp.mv (Operand.tmp 2)),
                    SOper.mk (some 27) none (SOp.load true 2 (Operand.tmp 8)),
                    SOper.mk (some 28) none (SOp.load true 2 (Operand.tmp 9)),
                    SOper.mk (some 29) none (SOp.call (Operand.tmp 26) [Operand.tmp 27, Operand.tmp 28]),
                    SOper.mk (some 10) none (SOp.mv (Operand.tmp 29))]
                  [0, 1, 2, 10, 11, 12, 13])
                (Stmt.seq
                  (Stmt.region
                    [SOper.mk (some 30) none (SOp.mv (Operand.tmp 10)),
                      SOper.mk (some 31) none
                        (SOp.ibin BinOp.neq (Operand.tmp 30) (Operand.const (Value.int IntKind.i64 0)))]
                    [0, 1, 2, 10, 11, 12, 13, 31])
                  (Stmt.cond (Operand.tmp 31)
                    (Stmt.seq
                      (Stmt.region
                        [SOper.mk (some 32) none (SOp.mv (Operand.tmp 10)),
                          SOper.mk (some 6) none (SOp.mv (Operand.tmp 32))]
                        [6])
                      Stmt.ret)
                    Stmt.skip)))))))
      (Stmt.region
        [SOper.mk (some 33) none (SOp.ibin BinOp.add (Operand.tmp 13) (Operand.const (Value.int IntKind.i64 1))),
          SOper.mk (some 13) none (SOp.mv (Operand.tmp 33))]
        [0, 1, 2, 11, 12, 13])))
def S202_0 : Stmt :=
  Stmt.seq (Stmt.region [SOper.mk (some 6) none (SOp.mv (Operand.const (Value.int IntKind.i64 0)))] [0, 1, 2])
  (Stmt.seq
    (Stmt.seq
      (Stmt.region
        [SOper.mk (some 11) none (SOp.mv (Operand.tmp 0)), SOper.mk (some 12) none (SOp.len false (Operand.tmp 11)),
          SOper.mk (some 13) none (SOp.mv (Operand.const (Value.int IntKind.i64 0)))]
        [0, 1, 2, 11, 12, 13])
      (Stmt.block 0 (Stmt.loop S202_1 [13] [0, 1, 2, 11, 12])))
    (Stmt.seq
      (Stmt.seq
        (Stmt.region
          [SOper.mk (some 34) none (SOp.mv (Operand.tmp 0)), SOper.mk (some 35) none (SOp.len false (Operand.tmp 34)),
            SOper.mk (some 36) none (SOp.mv (Operand.tmp 1)), SOper.mk (some 37) none (SOp.len false (Operand.tmp 36)),
            SOper.mk (some 38) none (SOp.ibin BinOp.lss (Operand.tmp 35) (Operand.tmp 37))]
          [38])
        (Stmt.cond (Operand.tmp 38)
          (Stmt.seq (Stmt.region [SOper.mk (some 6) none (SOp.mv (Operand.const (Value.int IntKind.i64 (-1))))] [6])
            Stmt.ret)
          Stmt.skip))
      (Stmt.seq (Stmt.region [SOper.mk (some 6) none (SOp.mv (Operand.const (Value.int IntKind.i64 0)))] [6])
        Stmt.ret)))
def S202 : FnS := ⟨39, [(6, none)], S202_0⟩
theorem tr202 : trFn Try.prog 202 [8, 9] [[0, 1, 2], [0, 1, 2, 11, 12, 13], [13], [0, 1, 2, 11, 12], [0, 1, 2, 11, 12, 13, 14], [0, 1, 2, 7, 8, 11, 12, 13], [0, 1, 2, 7, 8, 11, 12, 13, 21], [6], [0, 1, 2, 8, 9, 11, 12, 13], [0, 1, 2, 10, 11, 12, 13], [0, 1, 2, 10, 11, 12, 13, 31], [6], [0, 1, 2, 11, 12, 13], [38], [6], [6]] = some S202 := by kernel_rfl
end Go.Proofs.Ytniobbepliknmaa.V
