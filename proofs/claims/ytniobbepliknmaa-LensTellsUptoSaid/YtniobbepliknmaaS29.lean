/- The text of slices.Delete[[]int,int] as a statement (slots: 0 s, 1 i, 2 j, 3 s, 4 i, 5 j, 7 oldlen); no condition. -/
import Derived.Test.YtniobbepliknmaaVh
import Derived.Test.YtniobbepliknmaaProg
namespace Go.Proofs.Ytniobbepliknmaa.V
open Go
def S29_0 : Stmt :=
  Stmt.seq (Stmt.region [SOper.mk (some 6) none (SOp.mv (Operand.const (Value.slice none 0 0)))] [0, 1, 2])
  (Stmt.seq
    (Stmt.region
      [SOper.mk (some 8) none (SOp.mv (Operand.tmp 0)), SOper.mk (some 9) none (SOp.mv (Operand.tmp 1)),
        SOper.mk (some 10) none (SOp.mv (Operand.tmp 2)), SOper.mk (some 11) none (SOp.mv (Operand.tmp 0)),
        SOper.mk (some 12) none (SOp.len false (Operand.tmp 11)),
        SOper.mk (some 13) none
          (SOp.q (Qk.slc 29 true true true) [Operand.tmp 8, Operand.tmp 9, Operand.tmp 10, Operand.tmp 12])]
      [0, 1, 2])
    (Stmt.seq
      (Stmt.seq
        (Stmt.region
          [SOper.mk (some 14) none (SOp.mv (Operand.tmp 1)), SOper.mk (some 15) none (SOp.mv (Operand.tmp 2)),
            SOper.mk (some 16) none (SOp.ibin BinOp.eql (Operand.tmp 14) (Operand.tmp 15))]
          [0, 1, 2, 16])
        (Stmt.cond (Operand.tmp 16)
          (Stmt.seq
            (Stmt.region
              [SOper.mk (some 17) none (SOp.mv (Operand.tmp 0)), SOper.mk (some 6) none (SOp.mv (Operand.tmp 17))] [6])
            Stmt.ret)
          Stmt.skip))
      (Stmt.seq
        (Stmt.region
          [SOper.mk (some 18) none (SOp.mv (Operand.tmp 0)), SOper.mk (some 19) none (SOp.len false (Operand.tmp 18)),
            SOper.mk (some 7) none (SOp.mv (Operand.tmp 19))]
          [0, 1, 2, 7])
        (Stmt.seq
          (Stmt.drawn
            [(false, SOper.mk (some 20) none (SOp.mv (Operand.tmp 0))),
              (false, SOper.mk (some 21) none (SOp.mv (Operand.tmp 1))),
              (false, SOper.mk (some 22) none (SOp.slc 1 (Operand.tmp 20) none (some (Operand.tmp 21)) none)),
              (false, SOper.mk (some 23) none (SOp.mv (Operand.tmp 0))),
              (false, SOper.mk (some 24) none (SOp.mv (Operand.tmp 2))),
              (false, SOper.mk (some 25) none (SOp.slc 1 (Operand.tmp 23) (some (Operand.tmp 24)) none none)),
              (false,
                SOper.mk (some 26) none
                  (SOp.append 29 3 1 8 (Value.int IntKind.i64 0) (Operand.tmp 22) (Operand.tmp 25))),
              (false, SOper.mk (some 0) none (SOp.mv (Operand.tmp 26)))]
            [0, 7])
          (Stmt.seq
            (Stmt.region
              [SOper.mk (some 27) none (SOp.mv (Operand.tmp 0)), SOper.mk (some 28) none (SOp.mv (Operand.tmp 0)),
                SOper.mk (some 29) none (SOp.len false (Operand.tmp 28)),
                SOper.mk (some 30) none (SOp.mv (Operand.tmp 7)),
                SOper.mk (some 31) none
                  (SOp.slc 1 (Operand.tmp 27) (some (Operand.tmp 29)) (some (Operand.tmp 30)) none),
                SOper.mk none none (SOp.a (Qk.bi 1 [29]) [Operand.tmp 31])]
              [0])
            (Stmt.seq
              (Stmt.region
                [SOper.mk (some 32) none (SOp.mv (Operand.tmp 0)), SOper.mk (some 6) none (SOp.mv (Operand.tmp 32))]
                [6])
              Stmt.ret))))))
def S29 : FnS := ⟨33, [(6, none)], S29_0⟩
theorem tr29 : trFn Try.prog 29 [] [[0, 1, 2], [0, 1, 2], [0, 1, 2, 16], [6], [0, 1, 2, 7], [0, 7], [0, 1, 2, 3, 4, 5, 6, 7], [], [], [], [0, 1], [], [], [3, 4], [0, 1, 2, 3, 4, 5], [0, 1, 2, 3, 4, 5, 6], [0], [6]] = some S29 := by kernel_rfl
end Go.Proofs.Ytniobbepliknmaa.V
