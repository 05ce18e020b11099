/- The text of parlance/parlref5.Shrunk as a statement (slots: 0 w, 1 fails, 2 w, 3 fails, 5 i, 6 v); no condition. -/
import Derived.Test.YtniobbepliknmaaVh
import Derived.Test.YtniobbepliknmaaProg
namespace Go.Proofs.Ytniobbepliknmaa.V
open Go
def S37_1 : Stmt :=
  Stmt.seq (Stmt.region [SOper.mk (some 10) none (SOp.ibin BinOp.lss (Operand.tmp 9) (Operand.tmp 8))] [0, 1, 8, 9, 10])
  (Stmt.seq (Stmt.cond (Operand.tmp 10) Stmt.skip (Stmt.exit 0))
    (Stmt.seq
      (Stmt.block 1
        (Stmt.seq
          (Stmt.region
            [SOper.mk (some 11) none (SOp.mv (Operand.tmp 9)), SOper.mk (some 5) none (SOp.mv (Operand.tmp 11))]
            [0, 1, 5, 8, 9])
          (Stmt.seq
            (Stmt.drawn
              [(false, SOper.mk (some 12) none (SOp.mv (Operand.tmp 0))),
                (false, SOper.mk (some 13) none (SOp.mv (Operand.tmp 5))),
                (false, SOper.mk (some 14) none (SOp.slc 1 (Operand.tmp 12) none (some (Operand.tmp 13)) none)),
                (false, SOper.mk (some 15) none (SOp.mv (Operand.tmp 0))),
                (false, SOper.mk (some 16) none (SOp.mv (Operand.tmp 5))),
                (false,
                  SOper.mk (some 17) none
                    (SOp.ibin BinOp.add (Operand.tmp 16) (Operand.const (Value.int IntKind.i64 1)))),
                (false, SOper.mk (some 18) none (SOp.slc 1 (Operand.tmp 15) (some (Operand.tmp 17)) none none)),
                (false,
                  SOper.mk (some 19) none
                    (SOp.buildS 29 2 [Value.slice none 0 0, Value.slice none 0 0]
                      [(0, 1, Operand.tmp 14), (1, 1, Operand.tmp 18)])),
                (false, SOper.mk (some 20) none (SOp.call (Operand.func 110) [Operand.tmp 19])),
                (false, SOper.mk (some 6) none (SOp.mv (Operand.tmp 20)))]
              [0, 1, 6, 8, 9])
            (Stmt.seq
              (Stmt.region
                [SOper.mk (some 21) none (SOp.mv (Operand.tmp 1)), SOper.mk (some 22) none (SOp.mv (Operand.tmp 6)),
                  SOper.mk (some 23) none (SOp.call (Operand.tmp 21) [Operand.tmp 22])]
                [0, 1, 6, 8, 9, 23])
              (Stmt.cond (Operand.tmp 23)
                (Stmt.seq
                  (Stmt.region
                    [SOper.mk (some 24) none (SOp.mv (Operand.tmp 6)), SOper.mk (some 25) none (SOp.mv (Operand.tmp 1)),
                      SOper.mk (some 26) none (SOp.call (Operand.func 37) [Operand.tmp 24, Operand.tmp 25]),
                      SOper.mk (some 4) none (SOp.mv (Operand.tmp 26))]
                    [4])
                  Stmt.ret)
                Stmt.skip)))))
      (Stmt.region
        [SOper.mk (some 27) none (SOp.ibin BinOp.add (Operand.tmp 9) (Operand.const (Value.int IntKind.i64 1))),
          SOper.mk (some 9) none (SOp.mv (Operand.tmp 27))]
        [0, 1, 8, 9])))
def S37_0 : Stmt :=
  Stmt.seq (Stmt.region [SOper.mk (some 4) none (SOp.mv (Operand.const (Value.slice none 0 0)))] [0, 1])
  (Stmt.seq
    (Stmt.seq
      (Stmt.region
        [SOper.mk (some 7) none (SOp.mv (Operand.tmp 0)), SOper.mk (some 8) none (SOp.len false (Operand.tmp 7)),
          SOper.mk (some 9) none (SOp.mv (Operand.const (Value.int IntKind.i64 0)))]
        [0, 1, 8, 9])
      (Stmt.block 0 (Stmt.loop S37_1 [9] [0, 1, 8])))
    (Stmt.seq
      (Stmt.region
        [SOper.mk (some 28) none (SOp.mv (Operand.tmp 0)),
          SOper.mk (some 29) none (SOp.call (Operand.func 111) [Operand.tmp 28]),
          SOper.mk (some 4) none (SOp.mv (Operand.tmp 29))]
        [4])
      Stmt.ret))
def S37 : FnS := ⟨30, [(4, none)], S37_0⟩
theorem tr37 : trFn Try.prog 37 [] [[0, 1], [0, 1, 8, 9], [9], [0, 1, 8], [0, 1, 8, 9, 10], [0, 1, 5, 8, 9], [0, 1, 6, 8, 9], [0, 1, 2, 3, 4, 5, 6, 7, 8, 9], [], [], [], [0, 1], [], [], [4], [3, 4, 5], [0, 1, 2, 3, 4, 5, 6], [0, 1, 2, 3, 4, 5, 6, 7], [0, 1, 2, 3, 4, 5, 6, 7, 8], [0, 1, 6, 8, 9, 23], [4], [0, 1, 8, 9], [4]] = some S37 := by kernel_rfl
end Go.Proofs.Ytniobbepliknmaa.V
