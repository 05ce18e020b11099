/- The text of parlance/parllaw5.GuessRules$1 as a statement (slots: 0 r, 2 r, 4 out, 5 _, 6 s); no condition. -/
import Derived.Test.YtniobbepliknmaaVh
import Derived.Test.YtniobbepliknmaaProg
namespace Go.Proofs.Ytniobbepliknmaa.V
open Go
def S25_1 : Stmt :=
  Stmt.block 1
  (Stmt.seq
    (Stmt.region
      [SOper.mk (some 18) none (SOp.idx 2 (Operand.tmp 14) (Operand.tmp 16)),
        SOper.mk (some 19) none (SOp.load true 2 (Operand.tmp 18)),
        SOper.mk (some 6) none (SOp.alloc true 39 (Value.agg (Array.mk [Value.bool false, Value.int IntKind.i64 0]))),
        SOper.mk none none (SOp.store 2 (Operand.tmp 6) (Operand.tmp 19))]
      [1, 4, 6, 14, 15, 16])
    (Stmt.seq
      (Stmt.region
        [SOper.mk (some 20) none (SOp.fld 0 (Operand.tmp 6)),
          SOper.mk (some 21) none (SOp.load false 1 (Operand.tmp 20))]
        [1, 4, 6, 14, 15, 16, 21])
      (Stmt.cond (Operand.tmp 21)
        (Stmt.region
          [SOper.mk (some 22) none (SOp.mv (Operand.tmp 4)), SOper.mk (some 23) none (SOp.fld 1 (Operand.tmp 6)),
            SOper.mk (some 24) none (SOp.load false 1 (Operand.tmp 23)),
            SOper.mk (some 25) none (SOp.buildS 3 1 [Value.int IntKind.i64 0] [(0, 1, Operand.tmp 24)]),
            SOper.mk (some 26) none (SOp.append 29 3 1 8 (Value.int IntKind.i64 0) (Operand.tmp 22) (Operand.tmp 25)),
            SOper.mk (some 4) none (SOp.mv (Operand.tmp 26))]
          [1, 4, 14, 15, 16])
        (Stmt.region
          [SOper.mk (some 27) none (SOp.mv (Operand.tmp 4)), SOper.mk (some 28) none (SOp.load false 1 (Operand.tmp 1)),
            SOper.mk (some 29) none (SOp.fld 1 (Operand.tmp 6)),
            SOper.mk (some 30) none (SOp.load false 1 (Operand.tmp 29)),
            SOper.mk (some 31) none (SOp.ibin BinOp.add (Operand.tmp 28) (Operand.tmp 30)),
            SOper.mk (some 32) none (SOp.buildS 3 1 [Value.int IntKind.i64 0] [(0, 1, Operand.tmp 31)]),
            SOper.mk (some 33) none (SOp.append 29 3 1 8 (Value.int IntKind.i64 0) (Operand.tmp 27) (Operand.tmp 32)),
            SOper.mk (some 4) none (SOp.mv (Operand.tmp 33))]
          [1, 4, 14, 15, 16]))))
def S25_2 : Stmt :=
  Stmt.region
  [SOper.mk (some 34) none (SOp.ibin BinOp.add (Operand.tmp 16) (Operand.const (Value.int IntKind.i64 1))),
    SOper.mk (some 16) none (SOp.mv (Operand.tmp 34))]
  [1, 4, 14, 15, 16]
def S25_3 : Stmt :=
  Stmt.seq
  (Stmt.region [SOper.mk (some 17) none (SOp.ibin BinOp.lss (Operand.tmp 16) (Operand.tmp 15))] [1, 4, 14, 15, 16, 17])
  (Stmt.seq (Stmt.cond (Operand.tmp 17) Stmt.skip (Stmt.exit 0)) (Stmt.join S25_1 S25_2 [4] [1, 14, 15, 16]))
def S25_0 : Stmt :=
  Stmt.seq
  (Stmt.region
    [SOper.mk (some 2) none (SOp.box true 37 (Operand.tmp 0)),
      SOper.mk (some 3) none (SOp.mv (Operand.const (Value.slice none 0 0)))]
    [1, 2])
  (Stmt.seq
    (Stmt.region
      [SOper.mk (some 7) none (SOp.fld 0 (Operand.tmp 2)), SOper.mk (some 8) none (SOp.load false 1 (Operand.tmp 7)),
        SOper.mk (some 9) none (SOp.fld 1 (Operand.tmp 2)), SOper.mk (some 10) none (SOp.load false 1 (Operand.tmp 9)),
        SOper.mk (some 11) none (SOp.len false (Operand.tmp 10)),
        SOper.mk (some 12) none
          (SOp.buildS 3 2 [Value.int IntKind.i64 0, Value.int IntKind.i64 0]
            [(0, 1, Operand.tmp 8), (1, 1, Operand.tmp 11)]),
        SOper.mk (some 4) none (SOp.mv (Operand.tmp 12))]
      [1, 2, 4])
    (Stmt.seq
      (Stmt.seq
        (Stmt.region
          [SOper.mk (some 13) none (SOp.fld 1 (Operand.tmp 2)),
            SOper.mk (some 14) none (SOp.load false 1 (Operand.tmp 13)),
            SOper.mk (some 15) none (SOp.len false (Operand.tmp 14)),
            SOper.mk (some 16) none (SOp.mv (Operand.const (Value.int IntKind.i64 0)))]
          [1, 4, 14, 15, 16])
        (Stmt.block 0 (Stmt.loop S25_3 [4, 16] [1, 14, 15])))
      (Stmt.seq
        (Stmt.region
          [SOper.mk (some 35) none (SOp.mv (Operand.tmp 4)), SOper.mk (some 3) none (SOp.mv (Operand.tmp 35))] [3])
        Stmt.ret)))
def S25 : FnS := ⟨36, [(3, none)], S25_0⟩
theorem tr25 : trFn Try.prog 25 [2, 6] [[1, 2], [1, 2, 4], [1, 4, 14, 15, 16], [4, 16], [1, 14, 15], [1, 4, 14, 15, 16, 17], [4], [1, 14, 15, 16], [1, 4, 6, 14, 15, 16], [1, 4, 6, 14, 15, 16, 21], [1, 4, 14, 15, 16], [1, 4, 14, 15, 16], [1, 4, 14, 15, 16], [3]] = some S25 := by kernel_rfl
end Go.Proofs.Ytniobbepliknmaa.V
