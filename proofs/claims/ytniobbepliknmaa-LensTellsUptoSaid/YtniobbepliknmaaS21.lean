/- The text of parlance/draw.Number as a statement (slots: 0 n, 1 coins, 2 n, 3 coins, 7 bits, 8 used, 9 x, 10 _, 11 c); no condition. -/
import Derived.Test.YtniobbepliknmaaVh
import Derived.Test.YtniobbepliknmaaProg
namespace Go.Proofs.Ytniobbepliknmaa.V
open Go
def S21_1 : Stmt :=
  Stmt.seq
  (Stmt.seq
    (Stmt.region
      [SOper.mk (some 18) none (SOp.mv (Operand.tmp 7)),
        SOper.mk (some 19) none (SOp.ishift BinOp.shl (Operand.const (Value.int IntKind.i64 1)) (Operand.tmp 18)),
        SOper.mk (some 20) none (SOp.mv (Operand.tmp 0)),
        SOper.mk (some 21) none (SOp.ibin BinOp.lss (Operand.tmp 19) (Operand.tmp 20))]
      [0, 1, 7, 21])
    (Stmt.cond (Operand.tmp 21) Stmt.skip (Stmt.exit 0)))
  (Stmt.block 1
    (Stmt.region
      [SOper.mk (some 22) none (SOp.mv (Operand.tmp 7)),
        SOper.mk (some 23) none (SOp.ibin BinOp.add (Operand.tmp 22) (Operand.const (Value.int IntKind.i64 1))),
        SOper.mk (some 7) none (SOp.mv (Operand.tmp 23))]
      [0, 1, 7]))
def S21_2 : Stmt :=
  Stmt.block 5
  (Stmt.seq
    (Stmt.region
      [SOper.mk (some 39) none (SOp.idx 1 (Operand.tmp 35) (Operand.tmp 37)),
        SOper.mk (some 40) none (SOp.load false 1 (Operand.tmp 39)), SOper.mk (some 11) none (SOp.mv (Operand.tmp 40))]
      [0, 1, 7, 8, 9, 11, 35, 36, 37])
    (Stmt.seq
      (Stmt.region
        [SOper.mk (some 41) none (SOp.mv (Operand.tmp 9)),
          SOper.mk (some 42) none (SOp.ibin BinOp.mul (Operand.tmp 41) (Operand.const (Value.int IntKind.i64 2))),
          SOper.mk (some 9) none (SOp.mv (Operand.tmp 42))]
        [0, 1, 7, 8, 9, 11, 35, 36, 37])
      (Stmt.seq (Stmt.region [SOper.mk (some 43) none (SOp.mv (Operand.tmp 11))] [0, 1, 7, 8, 9, 35, 36, 37, 43])
        (Stmt.cond (Operand.tmp 43)
          (Stmt.region
            [SOper.mk (some 44) none (SOp.mv (Operand.tmp 9)),
              SOper.mk (some 45) none (SOp.ibin BinOp.add (Operand.tmp 44) (Operand.const (Value.int IntKind.i64 1))),
              SOper.mk (some 9) none (SOp.mv (Operand.tmp 45))]
            [0, 1, 7, 8, 9, 35, 36, 37])
          Stmt.skip))))
def S21_3 : Stmt :=
  Stmt.region
  [SOper.mk (some 46) none (SOp.ibin BinOp.add (Operand.tmp 37) (Operand.const (Value.int IntKind.i64 1))),
    SOper.mk (some 37) none (SOp.mv (Operand.tmp 46))]
  [0, 1, 7, 8, 9, 35, 36, 37]
def S21_4 : Stmt :=
  Stmt.seq
  (Stmt.region [SOper.mk (some 38) none (SOp.ibin BinOp.lss (Operand.tmp 37) (Operand.tmp 36))]
    [0, 1, 7, 8, 9, 35, 36, 37, 38])
  (Stmt.seq (Stmt.cond (Operand.tmp 38) Stmt.skip (Stmt.exit 4)) (Stmt.join S21_2 S21_3 [9] [0, 1, 7, 8, 35, 36, 37]))
def S21_5 : Stmt :=
  Stmt.seq
  (Stmt.seq
    (Stmt.region
      [SOper.mk (some 24) none (SOp.mv (Operand.tmp 8)), SOper.mk (some 25) none (SOp.mv (Operand.tmp 7)),
        SOper.mk (some 26) none (SOp.ibin BinOp.add (Operand.tmp 24) (Operand.tmp 25)),
        SOper.mk (some 27) none (SOp.mv (Operand.tmp 1)), SOper.mk (some 28) none (SOp.len false (Operand.tmp 27)),
        SOper.mk (some 29) none (SOp.ibin BinOp.leq (Operand.tmp 26) (Operand.tmp 28))]
      [0, 1, 7, 8, 29])
    (Stmt.cond (Operand.tmp 29) Stmt.skip (Stmt.exit 2)))
  (Stmt.block 3
    (Stmt.seq (Stmt.region [SOper.mk (some 9) none (SOp.mv (Operand.const (Value.int IntKind.i64 0)))] [0, 1, 7, 8, 9])
      (Stmt.seq
        (Stmt.seq
          (Stmt.region
            [SOper.mk (some 30) none (SOp.mv (Operand.tmp 1)), SOper.mk (some 31) none (SOp.mv (Operand.tmp 8)),
              SOper.mk (some 32) none (SOp.mv (Operand.tmp 8)), SOper.mk (some 33) none (SOp.mv (Operand.tmp 7)),
              SOper.mk (some 34) none (SOp.ibin BinOp.add (Operand.tmp 32) (Operand.tmp 33)),
              SOper.mk (some 35) none (SOp.slc 1 (Operand.tmp 30) (some (Operand.tmp 31)) (some (Operand.tmp 34)) none),
              SOper.mk (some 36) none (SOp.len false (Operand.tmp 35)),
              SOper.mk (some 37) none (SOp.mv (Operand.const (Value.int IntKind.i64 0)))]
            [0, 1, 7, 8, 9, 35, 36, 37])
          (Stmt.block 4 (Stmt.loop S21_4 [9, 37] [0, 1, 7, 8, 35, 36])))
        (Stmt.seq
          (Stmt.region
            [SOper.mk (some 47) none (SOp.mv (Operand.tmp 8)), SOper.mk (some 48) none (SOp.mv (Operand.tmp 7)),
              SOper.mk (some 49) none (SOp.ibin BinOp.add (Operand.tmp 47) (Operand.tmp 48)),
              SOper.mk (some 8) none (SOp.mv (Operand.tmp 49))]
            [0, 1, 7, 8, 9])
          (Stmt.seq
            (Stmt.region
              [SOper.mk (some 50) none (SOp.mv (Operand.tmp 9)), SOper.mk (some 51) none (SOp.mv (Operand.tmp 0)),
                SOper.mk (some 52) none (SOp.ibin BinOp.lss (Operand.tmp 50) (Operand.tmp 51))]
              [0, 1, 7, 8, 9, 52])
            (Stmt.cond (Operand.tmp 52)
              (Stmt.seq
                (Stmt.region
                  [SOper.mk (some 53) none (SOp.mv (Operand.tmp 9)), SOper.mk (some 54) none (SOp.mv (Operand.tmp 8)),
                    SOper.mk (some 4) none (SOp.mv (Operand.tmp 53)), SOper.mk (some 5) none (SOp.mv (Operand.tmp 54)),
                    SOper.mk (some 6) none (SOp.mv (Operand.const (Value.int IntKind.i64 0)))]
                  [4, 5, 6])
                Stmt.ret)
              Stmt.skip))))))
def S21_0 : Stmt :=
  Stmt.seq
  (Stmt.region
    [SOper.mk (some 4) none (SOp.mv (Operand.const (Value.int IntKind.i64 0))),
      SOper.mk (some 5) none (SOp.mv (Operand.const (Value.int IntKind.i64 0))),
      SOper.mk (some 6) none (SOp.mv (Operand.const (Value.int IntKind.i64 0)))]
    [0, 1])
  (Stmt.seq
    (Stmt.seq
      (Stmt.region
        [SOper.mk (some 12) none (SOp.mv (Operand.tmp 0)),
          SOper.mk (some 13) none (SOp.ibin BinOp.lss (Operand.tmp 12) (Operand.const (Value.int IntKind.i64 1))),
          SOper.mk (some 14) none (SOp.mv (Operand.tmp 13)),
          SOper.mk (some 15) (some (14, false)) (SOp.mv (Operand.tmp 0)),
          SOper.mk (some 16) (some (14, false))
            (SOp.ibin BinOp.gtr (Operand.tmp 15) (Operand.const (Value.int IntKind.i64 1000000000))),
          SOper.mk (some 17) none (SOp.pick (Operand.tmp 14) (Operand.const (Value.bool true)) (Operand.tmp 16))]
        [0, 1, 17])
      (Stmt.cond (Operand.tmp 17)
        (Stmt.seq
          (Stmt.region
            [SOper.mk (some 4) none (SOp.mv (Operand.const (Value.int IntKind.i64 0))),
              SOper.mk (some 5) none (SOp.mv (Operand.const (Value.int IntKind.i64 0))),
              SOper.mk (some 6) none (SOp.mv (Operand.const (Value.int IntKind.i64 1)))]
            [4, 5, 6])
          Stmt.ret)
        Stmt.skip))
    (Stmt.seq (Stmt.region [SOper.mk (some 7) none (SOp.mv (Operand.const (Value.int IntKind.i64 0)))] [0, 1, 7])
      (Stmt.seq (Stmt.block 0 (Stmt.loop S21_1 [7] [0, 1]))
        (Stmt.seq
          (Stmt.seq
            (Stmt.region [SOper.mk (some 8) none (SOp.mv (Operand.const (Value.int IntKind.i64 0)))] [0, 1, 7, 8])
            (Stmt.block 2 (Stmt.loop S21_5 [8] [0, 1, 7])))
          (Stmt.seq
            (Stmt.region
              [SOper.mk (some 4) none (SOp.mv (Operand.const (Value.int IntKind.i64 0))),
                SOper.mk (some 5) none (SOp.mv (Operand.const (Value.int IntKind.i64 0))),
                SOper.mk (some 6) none (SOp.mv (Operand.const (Value.int IntKind.i64 5)))]
              [4, 5, 6])
            Stmt.ret)))))
def S21 : FnS := ⟨55, [(4, none), (5, none), (6, none)], S21_0⟩
theorem tr21 : trFn Try.prog 21 [] [[0, 1], [0, 1, 17], [4, 5, 6], [0, 1, 7], [7], [0, 1], [0, 1, 7, 21], [0, 1, 7], [0, 1, 7, 8], [8], [0, 1, 7], [0, 1, 7, 8, 29], [0, 1, 7, 8, 9], [0, 1, 7, 8, 9, 35, 36, 37], [9, 37], [0, 1, 7, 8, 35, 36], [0, 1, 7, 8, 9, 35, 36, 37, 38], [9], [0, 1, 7, 8, 35, 36, 37], [0, 1, 7, 8, 9, 11, 35, 36, 37], [0, 1, 7, 8, 9, 11, 35, 36, 37], [0, 1, 7, 8, 9, 35, 36, 37, 43], [0, 1, 7, 8, 9, 35, 36, 37], [0, 1, 7, 8, 9, 35, 36, 37], [0, 1, 7, 8, 9], [0, 1, 7, 8, 9, 52], [4, 5, 6], [4, 5, 6]] = some S21 := by kernel_rfl
end Go.Proofs.Ytniobbepliknmaa.V
