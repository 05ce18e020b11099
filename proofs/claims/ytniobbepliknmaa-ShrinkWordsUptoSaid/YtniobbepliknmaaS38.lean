/- The text of parlance/parlref5.Lowered as a statement (slots: 0 w, 1 fails, 2 w, 3 fails, 5 i, 6 x, 7 v); no condition. -/
import Derived.Test.YtniobbepliknmaaVh
import Derived.Test.YtniobbepliknmaaProg
namespace Go.Proofs.Ytniobbepliknmaa.V
open Go
def S38_1 : Stmt :=
  Stmt.seq
  (Stmt.seq
    (Stmt.region
      [SOper.mk (some 13) none (SOp.mv (Operand.tmp 6)), SOper.mk (some 14) none (SOp.mv (Operand.tmp 0)),
        SOper.mk (some 15) none (SOp.mv (Operand.tmp 5)),
        SOper.mk (some 16) none (SOp.idx 1 (Operand.tmp 14) (Operand.tmp 15)),
        SOper.mk (some 17) none (SOp.load false 1 (Operand.tmp 16)),
        SOper.mk (some 18) none (SOp.ibin BinOp.lss (Operand.tmp 13) (Operand.tmp 17))]
      [0, 1, 5, 6, 9, 10, 18])
    (Stmt.cond (Operand.tmp 18) Stmt.skip (Stmt.exit 2)))
  (Stmt.seq
    (Stmt.block 3
      (Stmt.seq
        (Stmt.region
          [SOper.mk (some 21) none (SOp.mv (Operand.tmp 0)),
            SOper.mk (some 22) none (SOp.call (Operand.func 111) [Operand.tmp 21]),
            SOper.mk (some 7) none (SOp.mv (Operand.tmp 22))]
          [0, 1, 5, 6, 7, 9, 10])
        (Stmt.seq
          (Stmt.region
            [SOper.mk (some 23) none (SOp.mv (Operand.tmp 7)), SOper.mk (some 24) none (SOp.mv (Operand.tmp 5)),
              SOper.mk (some 25) none (SOp.mv (Operand.tmp 6)),
              SOper.mk (some 26) none (SOp.idx 1 (Operand.tmp 23) (Operand.tmp 24)),
              SOper.mk none none (SOp.store 1 (Operand.tmp 26) (Operand.tmp 25))]
            [0, 1, 5, 6, 7, 9, 10])
          (Stmt.seq
            (Stmt.region
              [SOper.mk (some 27) none (SOp.mv (Operand.tmp 1)), SOper.mk (some 28) none (SOp.mv (Operand.tmp 7)),
                SOper.mk (some 29) none (SOp.call (Operand.tmp 27) [Operand.tmp 28])]
              [0, 1, 5, 6, 7, 9, 10, 29])
            (Stmt.cond (Operand.tmp 29)
              (Stmt.seq
                (Stmt.region
                  [SOper.mk (some 30) none (SOp.mv (Operand.tmp 7)), SOper.mk (some 31) none (SOp.mv (Operand.tmp 1)),
                    SOper.mk (some 32) none (SOp.call (Operand.func 38) [Operand.tmp 30, Operand.tmp 31]),
                    SOper.mk (some 4) none (SOp.mv (Operand.tmp 32))]
                  [4])
                Stmt.ret)
              Stmt.skip)))))
    (Stmt.region
      [SOper.mk (some 19) none (SOp.mv (Operand.tmp 6)),
        SOper.mk (some 20) none (SOp.ibin BinOp.add (Operand.tmp 19) (Operand.const (Value.int IntKind.i64 1))),
        SOper.mk (some 6) none (SOp.mv (Operand.tmp 20))]
      [0, 1, 5, 6, 9, 10]))
def S38_2 : Stmt :=
  Stmt.seq (Stmt.region [SOper.mk (some 11) none (SOp.ibin BinOp.lss (Operand.tmp 10) (Operand.tmp 9))] [0, 1, 9, 10, 11])
  (Stmt.seq (Stmt.cond (Operand.tmp 11) Stmt.skip (Stmt.exit 0))
    (Stmt.seq
      (Stmt.block 1
        (Stmt.seq
          (Stmt.region
            [SOper.mk (some 12) none (SOp.mv (Operand.tmp 10)), SOper.mk (some 5) none (SOp.mv (Operand.tmp 12))]
            [0, 1, 5, 9, 10])
          (Stmt.seq
            (Stmt.region [SOper.mk (some 6) none (SOp.mv (Operand.const (Value.int IntKind.i64 0)))]
              [0, 1, 5, 6, 9, 10])
            (Stmt.block 2 (Stmt.loop S38_1 [6] [0, 1, 5, 9, 10])))))
      (Stmt.region
        [SOper.mk (some 33) none (SOp.ibin BinOp.add (Operand.tmp 10) (Operand.const (Value.int IntKind.i64 1))),
          SOper.mk (some 10) none (SOp.mv (Operand.tmp 33))]
        [0, 1, 9, 10])))
def S38_0 : Stmt :=
  Stmt.seq (Stmt.region [SOper.mk (some 4) none (SOp.mv (Operand.const (Value.slice none 0 0)))] [0, 1])
  (Stmt.seq
    (Stmt.seq
      (Stmt.region
        [SOper.mk (some 8) none (SOp.mv (Operand.tmp 0)), SOper.mk (some 9) none (SOp.len false (Operand.tmp 8)),
          SOper.mk (some 10) none (SOp.mv (Operand.const (Value.int IntKind.i64 0)))]
        [0, 1, 9, 10])
      (Stmt.block 0 (Stmt.loop S38_2 [10] [0, 1, 9])))
    (Stmt.seq
      (Stmt.region
        [SOper.mk (some 34) none (SOp.mv (Operand.tmp 0)),
          SOper.mk (some 35) none (SOp.call (Operand.func 111) [Operand.tmp 34]),
          SOper.mk (some 4) none (SOp.mv (Operand.tmp 35))]
        [4])
      Stmt.ret))
def S38 : FnS := ⟨36, [(4, none)], S38_0⟩
theorem tr38 : trFn Try.prog 38 [] [[0, 1], [0, 1, 9, 10], [10], [0, 1, 9], [0, 1, 9, 10, 11], [0, 1, 5, 9, 10], [0, 1, 5, 6, 9, 10], [6], [0, 1, 5, 9, 10], [0, 1, 5, 6, 9, 10, 18], [0, 1, 5, 6, 7, 9, 10], [0, 1, 5, 6, 7, 9, 10], [0, 1, 5, 6, 7, 9, 10, 29], [4], [0, 1, 5, 6, 9, 10], [0, 1, 9, 10], [4]] = some S38 := by kernel_rfl
end Go.Proofs.Ytniobbepliknmaa.V
