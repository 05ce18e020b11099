/- The text of parlance/parlref5.Coins as a statement (slots: 0 n, 1 coins, 2 n, 3 coins, 7 k, 8 p, 9 i, 10 part, 11 x, 12 j); no condition. -/
import Derived.Test.YtniobbepliknmaaVh
import Derived.Test.YtniobbepliknmaaProg
namespace Go.Proofs.Ytniobbepliknmaa.V
open Go
def S22_1 : Stmt :=
  Stmt.seq
  (Stmt.seq
    (Stmt.region
      [SOper.mk (some 13) none (SOp.mv (Operand.tmp 8)), SOper.mk (some 14) none (SOp.mv (Operand.tmp 0)),
        SOper.mk (some 15) none (SOp.ibin BinOp.lss (Operand.tmp 13) (Operand.tmp 14))]
      [0, 1, 7, 8, 15])
    (Stmt.cond (Operand.tmp 15) Stmt.skip (Stmt.exit 0)))
  (Stmt.seq
    (Stmt.block 1
      (Stmt.region
        [SOper.mk (some 18) none (SOp.mv (Operand.tmp 7)),
          SOper.mk (some 19) none (SOp.ibin BinOp.add (Operand.tmp 18) (Operand.const (Value.int IntKind.i64 1))),
          SOper.mk (some 7) none (SOp.mv (Operand.tmp 19))]
        [0, 1, 7, 8]))
    (Stmt.region
      [SOper.mk (some 16) none (SOp.mv (Operand.tmp 8)),
        SOper.mk (some 17) none (SOp.ibin BinOp.mul (Operand.tmp 16) (Operand.const (Value.int IntKind.i64 2))),
        SOper.mk (some 8) none (SOp.mv (Operand.tmp 17))]
      [0, 1, 7, 8]))
def S22_2 : Stmt :=
  Stmt.block 5
  (Stmt.seq
    (Stmt.region [SOper.mk (some 40) none (SOp.mv (Operand.tmp 38)), SOper.mk (some 12) none (SOp.mv (Operand.tmp 40))]
      [0, 1, 7, 9, 10, 11, 12, 37, 38])
    (Stmt.seq
      (Stmt.region
        [SOper.mk (some 41) none (SOp.mv (Operand.tmp 10)), SOper.mk (some 42) none (SOp.mv (Operand.tmp 12)),
          SOper.mk (some 43) none (SOp.idx 1 (Operand.tmp 41) (Operand.tmp 42)),
          SOper.mk (some 44) none (SOp.load false 1 (Operand.tmp 43))]
        [0, 1, 7, 9, 10, 11, 12, 37, 38, 44])
      (Stmt.cond (Operand.tmp 44)
        (Stmt.region
          [SOper.mk (some 45) none (SOp.mv (Operand.tmp 11)), SOper.mk (some 46) none (SOp.mv (Operand.tmp 7)),
            SOper.mk (some 47) none (SOp.ibin BinOp.sub (Operand.tmp 46) (Operand.const (Value.int IntKind.i64 1))),
            SOper.mk (some 48) none (SOp.mv (Operand.tmp 12)),
            SOper.mk (some 49) none (SOp.ibin BinOp.sub (Operand.tmp 47) (Operand.tmp 48)),
            SOper.mk (some 50) none (SOp.ishift BinOp.shl (Operand.const (Value.int IntKind.i64 1)) (Operand.tmp 49)),
            SOper.mk (some 51) none (SOp.ibin BinOp.add (Operand.tmp 45) (Operand.tmp 50)),
            SOper.mk (some 11) none (SOp.mv (Operand.tmp 51))]
          [0, 1, 7, 9, 10, 11, 37, 38])
        Stmt.skip)))
def S22_3 : Stmt :=
  Stmt.region
  [SOper.mk (some 52) none (SOp.ibin BinOp.add (Operand.tmp 38) (Operand.const (Value.int IntKind.i64 1))),
    SOper.mk (some 38) none (SOp.mv (Operand.tmp 52))]
  [0, 1, 7, 9, 10, 11, 37, 38]
def S22_4 : Stmt :=
  Stmt.seq
  (Stmt.region [SOper.mk (some 39) none (SOp.ibin BinOp.lss (Operand.tmp 38) (Operand.tmp 37))]
    [0, 1, 7, 9, 10, 11, 37, 38, 39])
  (Stmt.seq (Stmt.cond (Operand.tmp 39) Stmt.skip (Stmt.exit 4)) (Stmt.join S22_2 S22_3 [11] [0, 1, 7, 9, 10, 37, 38]))
def S22_5 : Stmt :=
  Stmt.seq
  (Stmt.seq
    (Stmt.region
      [SOper.mk (some 20) none (SOp.mv (Operand.tmp 9)), SOper.mk (some 21) none (SOp.mv (Operand.tmp 7)),
        SOper.mk (some 22) none (SOp.ibin BinOp.mul (Operand.tmp 20) (Operand.tmp 21)),
        SOper.mk (some 23) none (SOp.mv (Operand.tmp 1)), SOper.mk (some 24) none (SOp.len false (Operand.tmp 23)),
        SOper.mk (some 25) none (SOp.ibin BinOp.leq (Operand.tmp 22) (Operand.tmp 24))]
      [0, 1, 7, 9, 25])
    (Stmt.cond (Operand.tmp 25) Stmt.skip (Stmt.exit 2)))
  (Stmt.seq
    (Stmt.block 3
      (Stmt.seq
        (Stmt.region
          [SOper.mk (some 28) none (SOp.mv (Operand.tmp 1)), SOper.mk (some 29) none (SOp.mv (Operand.tmp 9)),
            SOper.mk (some 30) none (SOp.mv (Operand.tmp 7)),
            SOper.mk (some 31) none (SOp.ibin BinOp.mul (Operand.tmp 29) (Operand.tmp 30)),
            SOper.mk (some 32) none (SOp.slc 1 (Operand.tmp 28) (some (Operand.tmp 31)) none none),
            SOper.mk (some 10) none (SOp.mv (Operand.tmp 32))]
          [0, 1, 7, 9, 10])
        (Stmt.seq
          (Stmt.seq
            (Stmt.region
              [SOper.mk (some 33) none (SOp.mv (Operand.tmp 10)),
                SOper.mk (some 34) none (SOp.len false (Operand.tmp 33)),
                SOper.mk (some 35) none (SOp.mv (Operand.tmp 7)),
                SOper.mk (some 36) none (SOp.ibin BinOp.lss (Operand.tmp 34) (Operand.tmp 35))]
              [0, 1, 7, 9, 10, 36])
            (Stmt.cond (Operand.tmp 36)
              (Stmt.seq
                (Stmt.region
                  [SOper.mk (some 4) none (SOp.mv (Operand.const (Value.int IntKind.i64 0))),
                    SOper.mk (some 5) none (SOp.mv (Operand.const (Value.int IntKind.i64 0))),
                    SOper.mk (some 6) none (SOp.mv (Operand.const (Value.bool false)))]
                  [4, 5, 6])
                Stmt.ret)
              Stmt.skip))
          (Stmt.seq
            (Stmt.region [SOper.mk (some 11) none (SOp.mv (Operand.const (Value.int IntKind.i64 0)))]
              [0, 1, 7, 9, 10, 11])
            (Stmt.seq
              (Stmt.seq
                (Stmt.region
                  [SOper.mk (some 37) none (SOp.mv (Operand.tmp 7)),
                    SOper.mk (some 38) none (SOp.mv (Operand.const (Value.int IntKind.i64 0)))]
                  [0, 1, 7, 9, 10, 11, 37, 38])
                (Stmt.block 4 (Stmt.loop S22_4 [11, 38] [0, 1, 7, 9, 10, 37])))
              (Stmt.seq
                (Stmt.region
                  [SOper.mk (some 53) none (SOp.mv (Operand.tmp 11)), SOper.mk (some 54) none (SOp.mv (Operand.tmp 0)),
                    SOper.mk (some 55) none (SOp.ibin BinOp.lss (Operand.tmp 53) (Operand.tmp 54))]
                  [0, 1, 7, 9, 11, 55])
                (Stmt.cond (Operand.tmp 55)
                  (Stmt.seq
                    (Stmt.region
                      [SOper.mk (some 56) none (SOp.mv (Operand.tmp 11)),
                        SOper.mk (some 57) none (SOp.mv (Operand.tmp 9)),
                        SOper.mk (some 58) none
                          (SOp.ibin BinOp.add (Operand.tmp 57) (Operand.const (Value.int IntKind.i64 1))),
                        SOper.mk (some 59) none (SOp.mv (Operand.tmp 7)),
                        SOper.mk (some 60) none (SOp.ibin BinOp.mul (Operand.tmp 58) (Operand.tmp 59)),
                        SOper.mk (some 4) none (SOp.mv (Operand.tmp 56)),
                        SOper.mk (some 5) none (SOp.mv (Operand.tmp 60)),
                        SOper.mk (some 6) none (SOp.mv (Operand.const (Value.bool true)))]
                      [4, 5, 6])
                    Stmt.ret)
                  Stmt.skip)))))))
    (Stmt.region
      [SOper.mk (some 26) none (SOp.mv (Operand.tmp 9)),
        SOper.mk (some 27) none (SOp.ibin BinOp.add (Operand.tmp 26) (Operand.const (Value.int IntKind.i64 1))),
        SOper.mk (some 9) none (SOp.mv (Operand.tmp 27))]
      [0, 1, 7, 9]))
def S22_0 : Stmt :=
  Stmt.seq
  (Stmt.region
    [SOper.mk (some 4) none (SOp.mv (Operand.const (Value.int IntKind.i64 0))),
      SOper.mk (some 5) none (SOp.mv (Operand.const (Value.int IntKind.i64 0))),
      SOper.mk (some 6) none (SOp.mv (Operand.const (Value.bool false)))]
    [0, 1])
  (Stmt.seq (Stmt.region [SOper.mk (some 7) none (SOp.mv (Operand.const (Value.int IntKind.i64 0)))] [0, 1, 7])
    (Stmt.seq
      (Stmt.seq (Stmt.region [SOper.mk (some 8) none (SOp.mv (Operand.const (Value.int IntKind.i64 1)))] [0, 1, 7, 8])
        (Stmt.block 0 (Stmt.loop S22_1 [7, 8] [0, 1])))
      (Stmt.seq
        (Stmt.seq (Stmt.region [SOper.mk (some 9) none (SOp.mv (Operand.const (Value.int IntKind.i64 0)))] [0, 1, 7, 9])
          (Stmt.block 2 (Stmt.loop S22_5 [9] [0, 1, 7])))
        (Stmt.seq
          (Stmt.region
            [SOper.mk (some 4) none (SOp.mv (Operand.const (Value.int IntKind.i64 0))),
              SOper.mk (some 5) none (SOp.mv (Operand.const (Value.int IntKind.i64 0))),
              SOper.mk (some 6) none (SOp.mv (Operand.const (Value.bool false)))]
            [4, 5, 6])
          Stmt.ret))))
def S22 : FnS := ⟨61, [(4, none), (5, none), (6, none)], S22_0⟩
theorem tr22 : trFn Try.prog 22 [] [[0, 1], [0, 1, 7], [0, 1, 7, 8], [7, 8], [0, 1], [0, 1, 7, 8, 15], [0, 1, 7, 8], [0, 1, 7, 8], [0, 1, 7, 9], [9], [0, 1, 7], [0, 1, 7, 9, 25], [0, 1, 7, 9, 10], [0, 1, 7, 9, 10, 36], [4, 5, 6], [0, 1, 7, 9, 10, 11], [0, 1, 7, 9, 10, 11, 37, 38], [11, 38], [0, 1, 7, 9, 10, 37], [0, 1, 7, 9, 10, 11, 37, 38, 39], [11], [0, 1, 7, 9, 10, 37, 38], [0, 1, 7, 9, 10, 11, 12, 37, 38], [0, 1, 7, 9, 10, 11, 12, 37, 38, 44], [0, 1, 7, 9, 10, 11, 37, 38], [0, 1, 7, 9, 10, 11, 37, 38], [0, 1, 7, 9, 11, 55], [4, 5, 6], [0, 1, 7, 9], [4, 5, 6]] = some S22 := by kernel_rfl
end Go.Proofs.Ytniobbepliknmaa.V
