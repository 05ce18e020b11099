/- The text of slices.Grow[[]int,int] as a statement (slots: 0 s, 1 n, 2 s, 3 n); no condition. -/
import Derived.Test.YtniobbepliknmaaVh
import Derived.Test.YtniobbepliknmaaProg
namespace Go.Proofs.Ytniobbepliknmaa.V
open Go
def S171_1 : Stmt :=
  Stmt.seq
  (Stmt.region
    [SOper.mk (some 5) none (SOp.mv (Operand.tmp 1)),
      SOper.mk (some 6) none (SOp.ibin BinOp.lss (Operand.tmp 5) (Operand.const (Value.int IntKind.i64 0)))]
    [0, 1, 6])
  (Stmt.cond (Operand.tmp 6) (Stmt.region [SOper.mk (some 7) none SOp.dead, SOper.mk none none SOp.dead] [0, 1])
    Stmt.skip)
def S171_2 : Stmt :=
  Stmt.seq
  (Stmt.region
    [SOper.mk (some 8) none (SOp.mv (Operand.tmp 1)), SOper.mk (some 9) none (SOp.mv (Operand.tmp 0)),
      SOper.mk (some 10) none (SOp.q (Qk.bi 0 [29]) [Operand.tmp 9]), SOper.mk (some 11) none (SOp.mv (Operand.tmp 0)),
      SOper.mk (some 12) none (SOp.len false (Operand.tmp 11)),
      SOper.mk (some 13) none (SOp.ibin BinOp.sub (Operand.tmp 10) (Operand.tmp 12)),
      SOper.mk (some 14) none (SOp.ibin BinOp.sub (Operand.tmp 8) (Operand.tmp 13)),
      SOper.mk (some 1) none (SOp.mv (Operand.tmp 14))]
    [0, 1])
  (Stmt.seq
    (Stmt.region
      [SOper.mk (some 15) none (SOp.mv (Operand.tmp 1)),
        SOper.mk (some 16) none (SOp.ibin BinOp.gtr (Operand.tmp 15) (Operand.const (Value.int IntKind.i64 0)))]
      [0, 1, 16])
    (Stmt.cond (Operand.tmp 16)
      (Stmt.region
        [SOper.mk (some 17) none (SOp.mv (Operand.tmp 0)), SOper.mk (some 18) none (SOp.mv (Operand.tmp 0)),
          SOper.mk (some 19) none (SOp.q (Qk.bi 0 [29]) [Operand.tmp 18]),
          SOper.mk (some 20) none (SOp.slc 1 (Operand.tmp 17) none (some (Operand.tmp 19)) none),
          SOper.mk (some 21) none (SOp.mv (Operand.tmp 1)),
          SOper.mk (some 22) none (SOp.appz 29 3 3 1 8 (Value.int IntKind.i64 0) (Operand.tmp 20) (Operand.tmp 21)),
          SOper.mk (some 23) none (SOp.mv (Operand.tmp 0)), SOper.mk (some 24) none (SOp.len false (Operand.tmp 23)),
          SOper.mk (some 25) none (SOp.slc 1 (Operand.tmp 22) none (some (Operand.tmp 24)) none),
          SOper.mk (some 0) none (SOp.mv (Operand.tmp 25))]
        [0])
      Stmt.skip))
def S171_3 : Stmt :=
  Stmt.seq
  (Stmt.region [SOper.mk (some 26) none (SOp.mv (Operand.tmp 0)), SOper.mk (some 4) none (SOp.mv (Operand.tmp 26))] [4])
  Stmt.ret
def S171_4 : Stmt :=
  Stmt.join S171_2 S171_3 [0] []
def S171_0 : Stmt :=
  Stmt.seq (Stmt.region [SOper.mk (some 4) none (SOp.mv (Operand.const (Value.slice none 0 0)))] [0, 1])
  (Stmt.join S171_1 S171_4 [] [0, 1])
def S171 : FnS := ⟨27, [(4, none)], S171_0⟩
theorem tr171 : trFn Try.prog 171 [] [[0, 1], [], [0, 1], [0, 1, 6], [0, 1], [0], [], [0, 1], [0, 1, 16], [0], [4]] = some S171 := by kernel_rfl
end Go.Proofs.Ytniobbepliknmaa.V
