/- The text of slices.Concat[[]int,int] as a statement (slots: 0 slices, 1 slices, 3 size, 4 _, 5 s, 6 newslice, 7 _, 8 s); no condition. -/
import Derived.Test.YtniobbepliknmaaVh
import Derived.Test.YtniobbepliknmaaProg
namespace Go.Proofs.Ytniobbepliknmaa.V
open Go
def S110_1 : Stmt :=
  Stmt.block 1
  (Stmt.seq
    (Stmt.region
      [SOper.mk (some 13) none (SOp.idx 1 (Operand.tmp 9) (Operand.tmp 11)),
        SOper.mk (some 14) none (SOp.load false 1 (Operand.tmp 13)), SOper.mk (some 5) none (SOp.mv (Operand.tmp 14))]
      [0, 3, 5, 9, 10, 11])
    (Stmt.seq
      (Stmt.region
        [SOper.mk (some 15) none (SOp.mv (Operand.tmp 3)), SOper.mk (some 16) none (SOp.mv (Operand.tmp 5)),
          SOper.mk (some 17) none (SOp.len false (Operand.tmp 16)),
          SOper.mk (some 18) none (SOp.ibin BinOp.add (Operand.tmp 15) (Operand.tmp 17)),
          SOper.mk (some 3) none (SOp.mv (Operand.tmp 18))]
        [0, 3, 9, 10, 11])
      (Stmt.seq
        (Stmt.region
          [SOper.mk (some 19) none (SOp.mv (Operand.tmp 3)),
            SOper.mk (some 20) none (SOp.ibin BinOp.lss (Operand.tmp 19) (Operand.const (Value.int IntKind.i64 0)))]
          [0, 3, 9, 10, 11, 20])
        (Stmt.cond (Operand.tmp 20)
          (Stmt.region [SOper.mk (some 21) none SOp.dead, SOper.mk none none SOp.dead] [0, 3, 9, 10, 11]) Stmt.skip))))
def S110_2 : Stmt :=
  Stmt.region
  [SOper.mk (some 22) none (SOp.ibin BinOp.add (Operand.tmp 11) (Operand.const (Value.int IntKind.i64 1))),
    SOper.mk (some 11) none (SOp.mv (Operand.tmp 22))]
  [0, 3, 9, 10, 11]
def S110_3 : Stmt :=
  Stmt.seq
  (Stmt.region [SOper.mk (some 12) none (SOp.ibin BinOp.lss (Operand.tmp 11) (Operand.tmp 10))] [0, 3, 9, 10, 11, 12])
  (Stmt.seq (Stmt.cond (Operand.tmp 12) Stmt.skip (Stmt.exit 0)) (Stmt.join S110_1 S110_2 [3] [0, 9, 10, 11]))
def S110_4 : Stmt :=
  Stmt.seq
  (Stmt.region [SOper.mk (some 28) none (SOp.ibin BinOp.lss (Operand.tmp 27) (Operand.tmp 26))] [6, 25, 26, 27, 28])
  (Stmt.seq (Stmt.cond (Operand.tmp 28) Stmt.skip (Stmt.exit 2))
    (Stmt.seq
      (Stmt.block 3
        (Stmt.seq
          (Stmt.region
            [SOper.mk (some 29) none (SOp.idx 1 (Operand.tmp 25) (Operand.tmp 27)),
              SOper.mk (some 30) none (SOp.load false 1 (Operand.tmp 29)),
              SOper.mk (some 8) none (SOp.mv (Operand.tmp 30))]
            [6, 8, 25, 26, 27])
          (Stmt.region
            [SOper.mk (some 31) none (SOp.mv (Operand.tmp 6)), SOper.mk (some 32) none (SOp.mv (Operand.tmp 8)),
              SOper.mk (some 33) none (SOp.append 29 3 1 8 (Value.int IntKind.i64 0) (Operand.tmp 31) (Operand.tmp 32)),
              SOper.mk (some 6) none (SOp.mv (Operand.tmp 33))]
            [6, 25, 26, 27])))
      (Stmt.region
        [SOper.mk (some 34) none (SOp.ibin BinOp.add (Operand.tmp 27) (Operand.const (Value.int IntKind.i64 1))),
          SOper.mk (some 27) none (SOp.mv (Operand.tmp 34))]
        [6, 25, 26, 27])))
def S110_0 : Stmt :=
  Stmt.seq (Stmt.region [SOper.mk (some 2) none (SOp.mv (Operand.const (Value.slice none 0 0)))] [0])
  (Stmt.seq (Stmt.region [SOper.mk (some 3) none (SOp.mv (Operand.const (Value.int IntKind.i64 0)))] [0, 3])
    (Stmt.seq
      (Stmt.seq
        (Stmt.region
          [SOper.mk (some 9) none (SOp.mv (Operand.tmp 0)), SOper.mk (some 10) none (SOp.len false (Operand.tmp 9)),
            SOper.mk (some 11) none (SOp.mv (Operand.const (Value.int IntKind.i64 0)))]
          [0, 3, 9, 10, 11])
        (Stmt.block 0 (Stmt.loop S110_3 [3, 11] [0, 9, 10])))
      (Stmt.seq
        (Stmt.region
          [SOper.mk (some 23) none (SOp.mv (Operand.tmp 3)),
            SOper.mk (some 24) none
              (SOp.call (Operand.func 171) [Operand.const (Value.slice none 0 0), Operand.tmp 23]),
            SOper.mk (some 6) none (SOp.mv (Operand.tmp 24))]
          [0, 6])
        (Stmt.seq
          (Stmt.seq
            (Stmt.region
              [SOper.mk (some 25) none (SOp.mv (Operand.tmp 0)),
                SOper.mk (some 26) none (SOp.len false (Operand.tmp 25)),
                SOper.mk (some 27) none (SOp.mv (Operand.const (Value.int IntKind.i64 0)))]
              [6, 25, 26, 27])
            (Stmt.block 2 (Stmt.loop S110_4 [6, 27] [25, 26])))
          (Stmt.seq
            (Stmt.region
              [SOper.mk (some 35) none (SOp.mv (Operand.tmp 6)), SOper.mk (some 2) none (SOp.mv (Operand.tmp 35))] [2])
            Stmt.ret)))))
def S110 : FnS := ⟨36, [(2, none)], S110_0⟩
theorem tr110 : trFn Try.prog 110 [] [[0], [0, 3], [0, 3, 9, 10, 11], [3, 11], [0, 9, 10], [0, 3, 9, 10, 11, 12], [3], [0, 9, 10, 11], [0, 3, 5, 9, 10, 11], [0, 3, 9, 10, 11], [0, 3, 9, 10, 11, 20], [0, 3, 9, 10, 11], [0, 3, 9, 10, 11], [0, 6], [6, 25, 26, 27], [6, 27], [25, 26], [6, 25, 26, 27, 28], [6, 8, 25, 26, 27], [6, 25, 26, 27], [6, 25, 26, 27], [2]] = some S110 := by kernel_rfl
end Go.Proofs.Ytniobbepliknmaa.V
