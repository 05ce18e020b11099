/- Texts put together, in the order in which they build; each says what it proves; no condition. -/
import Derived.Test.YtniobbepliknmaaM2
import Derived.Test.YtniobbepliknmaaProg
import Derived.Test.YtniobbepliknmaaM3
import Derived.ChangeKeysEq
import Derived.Maps.Keyed
/- The text of parlance/draw.Number as a statement (slots: 0 n, 1 coins, 2 n, 3 coins, 7 bits, 8 used, 9 x, 10 _, 11 c); no condition. -/
namespace Go.Proofs.Ytniobbepliknmaa.V
open Go
def S21_1 : Stmt :=
  Stmt.seq
  (Stmt.seq
    (Stmt.region
      [SOper.mk (some 18) none (SOp.mv (Operand.tmp 7)),
        SOper.mk (some 19) none (SOp.ishift BinOp.shl (Operand.const (Value.int IntKind.i64 1)) (Operand.tmp 18)),
        SOper.mk (some 20) none (SOp.mv (Operand.tmp 0)),
        SOper.mk (some 21) none (SOp.ibin BinOp.lss (Operand.tmp 19) (Operand.tmp 20))]
      [0, 1, 7, 21])
    (Stmt.cond (Operand.tmp 21) Stmt.skip (Stmt.exit 0)))
  (Stmt.block 1
    (Stmt.region
      [SOper.mk (some 22) none (SOp.mv (Operand.tmp 7)),
        SOper.mk (some 23) none (SOp.ibin BinOp.add (Operand.tmp 22) (Operand.const (Value.int IntKind.i64 1))),
        SOper.mk (some 7) none (SOp.mv (Operand.tmp 23))]
      [0, 1, 7]))
def S21_2 : Stmt :=
  Stmt.block 5
  (Stmt.seq
    (Stmt.region
      [SOper.mk (some 39) none (SOp.idx 1 (Operand.tmp 35) (Operand.tmp 37)),
        SOper.mk (some 40) none (SOp.load false 1 (Operand.tmp 39)), SOper.mk (some 11) none (SOp.mv (Operand.tmp 40))]
      [0, 1, 7, 8, 9, 11, 35, 36, 37])
    (Stmt.seq
      (Stmt.region
        [SOper.mk (some 41) none (SOp.mv (Operand.tmp 9)),
          SOper.mk (some 42) none (SOp.ibin BinOp.mul (Operand.tmp 41) (Operand.const (Value.int IntKind.i64 2))),
          SOper.mk (some 9) none (SOp.mv (Operand.tmp 42))]
        [0, 1, 7, 8, 9, 11, 35, 36, 37])
      (Stmt.seq (Stmt.region [SOper.mk (some 43) none (SOp.mv (Operand.tmp 11))] [0, 1, 7, 8, 9, 35, 36, 37, 43])
        (Stmt.cond (Operand.tmp 43)
          (Stmt.region
            [SOper.mk (some 44) none (SOp.mv (Operand.tmp 9)),
              SOper.mk (some 45) none (SOp.ibin BinOp.add (Operand.tmp 44) (Operand.const (Value.int IntKind.i64 1))),
              SOper.mk (some 9) none (SOp.mv (Operand.tmp 45))]
            [0, 1, 7, 8, 9, 35, 36, 37])
          Stmt.skip))))
def S21_3 : Stmt :=
  Stmt.region
  [SOper.mk (some 46) none (SOp.ibin BinOp.add (Operand.tmp 37) (Operand.const (Value.int IntKind.i64 1))),
    SOper.mk (some 37) none (SOp.mv (Operand.tmp 46))]
  [0, 1, 7, 8, 9, 35, 36, 37]
def S21_4 : Stmt :=
  Stmt.seq
  (Stmt.region [SOper.mk (some 38) none (SOp.ibin BinOp.lss (Operand.tmp 37) (Operand.tmp 36))]
    [0, 1, 7, 8, 9, 35, 36, 37, 38])
  (Stmt.seq (Stmt.cond (Operand.tmp 38) Stmt.skip (Stmt.exit 4)) (Stmt.join S21_2 S21_3 [9] [0, 1, 7, 8, 35, 36, 37]))
def S21_5 : Stmt :=
  Stmt.seq
  (Stmt.seq
    (Stmt.region
      [SOper.mk (some 24) none (SOp.mv (Operand.tmp 8)), SOper.mk (some 25) none (SOp.mv (Operand.tmp 7)),
        SOper.mk (some 26) none (SOp.ibin BinOp.add (Operand.tmp 24) (Operand.tmp 25)),
        SOper.mk (some 27) none (SOp.mv (Operand.tmp 1)), SOper.mk (some 28) none (SOp.len false (Operand.tmp 27)),
        SOper.mk (some 29) none (SOp.ibin BinOp.leq (Operand.tmp 26) (Operand.tmp 28))]
      [0, 1, 7, 8, 29])
    (Stmt.cond (Operand.tmp 29) Stmt.skip (Stmt.exit 2)))
  (Stmt.block 3
    (Stmt.seq (Stmt.region [SOper.mk (some 9) none (SOp.mv (Operand.const (Value.int IntKind.i64 0)))] [0, 1, 7, 8, 9])
      (Stmt.seq
        (Stmt.seq
          (Stmt.region
            [SOper.mk (some 30) none (SOp.mv (Operand.tmp 1)), SOper.mk (some 31) none (SOp.mv (Operand.tmp 8)),
              SOper.mk (some 32) none (SOp.mv (Operand.tmp 8)), SOper.mk (some 33) none (SOp.mv (Operand.tmp 7)),
              SOper.mk (some 34) none (SOp.ibin BinOp.add (Operand.tmp 32) (Operand.tmp 33)),
              SOper.mk (some 35) none (SOp.slc 1 (Operand.tmp 30) (some (Operand.tmp 31)) (some (Operand.tmp 34)) none),
              SOper.mk (some 36) none (SOp.len false (Operand.tmp 35)),
              SOper.mk (some 37) none (SOp.mv (Operand.const (Value.int IntKind.i64 0)))]
            [0, 1, 7, 8, 9, 35, 36, 37])
          (Stmt.block 4 (Stmt.loop S21_4 [9, 37] [0, 1, 7, 8, 35, 36])))
        (Stmt.seq
          (Stmt.region
            [SOper.mk (some 47) none (SOp.mv (Operand.tmp 8)), SOper.mk (some 48) none (SOp.mv (Operand.tmp 7)),
              SOper.mk (some 49) none (SOp.ibin BinOp.add (Operand.tmp 47) (Operand.tmp 48)),
              SOper.mk (some 8) none (SOp.mv (Operand.tmp 49))]
            [0, 1, 7, 8, 9])
          (Stmt.seq
            (Stmt.region
              [SOper.mk (some 50) none (SOp.mv (Operand.tmp 9)), SOper.mk (some 51) none (SOp.mv (Operand.tmp 0)),
                SOper.mk (some 52) none (SOp.ibin BinOp.lss (Operand.tmp 50) (Operand.tmp 51))]
              [0, 1, 7, 8, 9, 52])
            (Stmt.cond (Operand.tmp 52)
              (Stmt.seq
                (Stmt.region
                  [SOper.mk (some 53) none (SOp.mv (Operand.tmp 9)), SOper.mk (some 54) none (SOp.mv (Operand.tmp 8)),
                    SOper.mk (some 4) none (SOp.mv (Operand.tmp 53)), SOper.mk (some 5) none (SOp.mv (Operand.tmp 54)),
                    SOper.mk (some 6) none (SOp.mv (Operand.const (Value.int IntKind.i64 0)))]
                  [4, 5, 6])
                Stmt.ret)
              Stmt.skip))))))
def S21_0 : Stmt :=
  Stmt.seq
  (Stmt.region
    [SOper.mk (some 4) none (SOp.mv (Operand.const (Value.int IntKind.i64 0))),
      SOper.mk (some 5) none (SOp.mv (Operand.const (Value.int IntKind.i64 0))),
      SOper.mk (some 6) none (SOp.mv (Operand.const (Value.int IntKind.i64 0)))]
    [0, 1])
  (Stmt.seq
    (Stmt.seq
      (Stmt.region
        [SOper.mk (some 12) none (SOp.mv (Operand.tmp 0)),
          SOper.mk (some 13) none (SOp.ibin BinOp.lss (Operand.tmp 12) (Operand.const (Value.int IntKind.i64 1))),
          SOper.mk (some 14) none (SOp.mv (Operand.tmp 13)),
          SOper.mk (some 15) (some (14, false)) (SOp.mv (Operand.tmp 0)),
          SOper.mk (some 16) (some (14, false))
            (SOp.ibin BinOp.gtr (Operand.tmp 15) (Operand.const (Value.int IntKind.i64 1000000000))),
          SOper.mk (some 17) none (SOp.pick (Operand.tmp 14) (Operand.const (Value.bool true)) (Operand.tmp 16))]
        [0, 1, 17])
      (Stmt.cond (Operand.tmp 17)
        (Stmt.seq
          (Stmt.region
            [SOper.mk (some 4) none (SOp.mv (Operand.const (Value.int IntKind.i64 0))),
              SOper.mk (some 5) none (SOp.mv (Operand.const (Value.int IntKind.i64 0))),
              SOper.mk (some 6) none (SOp.mv (Operand.const (Value.int IntKind.i64 1)))]
            [4, 5, 6])
          Stmt.ret)
        Stmt.skip))
    (Stmt.seq (Stmt.region [SOper.mk (some 7) none (SOp.mv (Operand.const (Value.int IntKind.i64 0)))] [0, 1, 7])
      (Stmt.seq (Stmt.block 0 (Stmt.loop S21_1 [7] [0, 1]))
        (Stmt.seq
          (Stmt.seq
            (Stmt.region [SOper.mk (some 8) none (SOp.mv (Operand.const (Value.int IntKind.i64 0)))] [0, 1, 7, 8])
            (Stmt.block 2 (Stmt.loop S21_5 [8] [0, 1, 7])))
          (Stmt.seq
            (Stmt.region
              [SOper.mk (some 4) none (SOp.mv (Operand.const (Value.int IntKind.i64 0))),
                SOper.mk (some 5) none (SOp.mv (Operand.const (Value.int IntKind.i64 0))),
                SOper.mk (some 6) none (SOp.mv (Operand.const (Value.int IntKind.i64 5)))]
              [4, 5, 6])
            Stmt.ret)))))
def S21 : FnS := ⟨55, [(4, none), (5, none), (6, none)], S21_0⟩
theorem tr21 : trFn Try.prog 21 [] [[0, 1], [0, 1, 17], [4, 5, 6], [0, 1, 7], [7], [0, 1], [0, 1, 7, 21], [0, 1, 7], [0, 1, 7, 8], [8], [0, 1, 7], [0, 1, 7, 8, 29], [0, 1, 7, 8, 9], [0, 1, 7, 8, 9, 35, 36, 37], [9, 37], [0, 1, 7, 8, 35, 36], [0, 1, 7, 8, 9, 35, 36, 37, 38], [9], [0, 1, 7, 8, 35, 36, 37], [0, 1, 7, 8, 9, 11, 35, 36, 37], [0, 1, 7, 8, 9, 11, 35, 36, 37], [0, 1, 7, 8, 9, 35, 36, 37, 43], [0, 1, 7, 8, 9, 35, 36, 37], [0, 1, 7, 8, 9, 35, 36, 37], [0, 1, 7, 8, 9], [0, 1, 7, 8, 9, 52], [4, 5, 6], [4, 5, 6]] = some S21 := by kernel_rfl
end Go.Proofs.Ytniobbepliknmaa.V
/- The text of parlance/parlref5.Coins as a statement (slots: 0 n, 1 coins, 2 n, 3 coins, 7 k, 8 p, 9 i, 10 part, 11 x, 12 j); no condition. -/
namespace Go.Proofs.Ytniobbepliknmaa.V
open Go
def S22_1 : Stmt :=
  Stmt.seq
  (Stmt.seq
    (Stmt.region
      [SOper.mk (some 13) none (SOp.mv (Operand.tmp 8)), SOper.mk (some 14) none (SOp.mv (Operand.tmp 0)),
        SOper.mk (some 15) none (SOp.ibin BinOp.lss (Operand.tmp 13) (Operand.tmp 14))]
      [0, 1, 7, 8, 15])
    (Stmt.cond (Operand.tmp 15) Stmt.skip (Stmt.exit 0)))
  (Stmt.seq
    (Stmt.block 1
      (Stmt.region
        [SOper.mk (some 18) none (SOp.mv (Operand.tmp 7)),
          SOper.mk (some 19) none (SOp.ibin BinOp.add (Operand.tmp 18) (Operand.const (Value.int IntKind.i64 1))),
          SOper.mk (some 7) none (SOp.mv (Operand.tmp 19))]
        [0, 1, 7, 8]))
    (Stmt.region
      [SOper.mk (some 16) none (SOp.mv (Operand.tmp 8)),
        SOper.mk (some 17) none (SOp.ibin BinOp.mul (Operand.tmp 16) (Operand.const (Value.int IntKind.i64 2))),
        SOper.mk (some 8) none (SOp.mv (Operand.tmp 17))]
      [0, 1, 7, 8]))
def S22_2 : Stmt :=
  Stmt.block 5
  (Stmt.seq
    (Stmt.region [SOper.mk (some 40) none (SOp.mv (Operand.tmp 38)), SOper.mk (some 12) none (SOp.mv (Operand.tmp 40))]
      [0, 1, 7, 9, 10, 11, 12, 37, 38])
    (Stmt.seq
      (Stmt.region
        [SOper.mk (some 41) none (SOp.mv (Operand.tmp 10)), SOper.mk (some 42) none (SOp.mv (Operand.tmp 12)),
          SOper.mk (some 43) none (SOp.idx 1 (Operand.tmp 41) (Operand.tmp 42)),
          SOper.mk (some 44) none (SOp.load false 1 (Operand.tmp 43))]
        [0, 1, 7, 9, 10, 11, 12, 37, 38, 44])
      (Stmt.cond (Operand.tmp 44)
        (Stmt.region
          [SOper.mk (some 45) none (SOp.mv (Operand.tmp 11)), SOper.mk (some 46) none (SOp.mv (Operand.tmp 7)),
            SOper.mk (some 47) none (SOp.ibin BinOp.sub (Operand.tmp 46) (Operand.const (Value.int IntKind.i64 1))),
            SOper.mk (some 48) none (SOp.mv (Operand.tmp 12)),
            SOper.mk (some 49) none (SOp.ibin BinOp.sub (Operand.tmp 47) (Operand.tmp 48)),
            SOper.mk (some 50) none (SOp.ishift BinOp.shl (Operand.const (Value.int IntKind.i64 1)) (Operand.tmp 49)),
            SOper.mk (some 51) none (SOp.ibin BinOp.add (Operand.tmp 45) (Operand.tmp 50)),
            SOper.mk (some 11) none (SOp.mv (Operand.tmp 51))]
          [0, 1, 7, 9, 10, 11, 37, 38])
        Stmt.skip)))
def S22_3 : Stmt :=
  Stmt.region
  [SOper.mk (some 52) none (SOp.ibin BinOp.add (Operand.tmp 38) (Operand.const (Value.int IntKind.i64 1))),
    SOper.mk (some 38) none (SOp.mv (Operand.tmp 52))]
  [0, 1, 7, 9, 10, 11, 37, 38]
def S22_4 : Stmt :=
  Stmt.seq
  (Stmt.region [SOper.mk (some 39) none (SOp.ibin BinOp.lss (Operand.tmp 38) (Operand.tmp 37))]
    [0, 1, 7, 9, 10, 11, 37, 38, 39])
  (Stmt.seq (Stmt.cond (Operand.tmp 39) Stmt.skip (Stmt.exit 4)) (Stmt.join S22_2 S22_3 [11] [0, 1, 7, 9, 10, 37, 38]))
def S22_5 : Stmt :=
  Stmt.seq
  (Stmt.seq
    (Stmt.region
      [SOper.mk (some 20) none (SOp.mv (Operand.tmp 9)), SOper.mk (some 21) none (SOp.mv (Operand.tmp 7)),
        SOper.mk (some 22) none (SOp.ibin BinOp.mul (Operand.tmp 20) (Operand.tmp 21)),
        SOper.mk (some 23) none (SOp.mv (Operand.tmp 1)), SOper.mk (some 24) none (SOp.len false (Operand.tmp 23)),
        SOper.mk (some 25) none (SOp.ibin BinOp.leq (Operand.tmp 22) (Operand.tmp 24))]
      [0, 1, 7, 9, 25])
    (Stmt.cond (Operand.tmp 25) Stmt.skip (Stmt.exit 2)))
  (Stmt.seq
    (Stmt.block 3
      (Stmt.seq
        (Stmt.region
          [SOper.mk (some 28) none (SOp.mv (Operand.tmp 1)), SOper.mk (some 29) none (SOp.mv (Operand.tmp 9)),
            SOper.mk (some 30) none (SOp.mv (Operand.tmp 7)),
            SOper.mk (some 31) none (SOp.ibin BinOp.mul (Operand.tmp 29) (Operand.tmp 30)),
            SOper.mk (some 32) none (SOp.slc 1 (Operand.tmp 28) (some (Operand.tmp 31)) none none),
            SOper.mk (some 10) none (SOp.mv (Operand.tmp 32))]
          [0, 1, 7, 9, 10])
        (Stmt.seq
          (Stmt.seq
            (Stmt.region
              [SOper.mk (some 33) none (SOp.mv (Operand.tmp 10)),
                SOper.mk (some 34) none (SOp.len false (Operand.tmp 33)),
                SOper.mk (some 35) none (SOp.mv (Operand.tmp 7)),
                SOper.mk (some 36) none (SOp.ibin BinOp.lss (Operand.tmp 34) (Operand.tmp 35))]
              [0, 1, 7, 9, 10, 36])
            (Stmt.cond (Operand.tmp 36)
              (Stmt.seq
                (Stmt.region
                  [SOper.mk (some 4) none (SOp.mv (Operand.const (Value.int IntKind.i64 0))),
                    SOper.mk (some 5) none (SOp.mv (Operand.const (Value.int IntKind.i64 0))),
                    SOper.mk (some 6) none (SOp.mv (Operand.const (Value.bool false)))]
                  [4, 5, 6])
                Stmt.ret)
              Stmt.skip))
          (Stmt.seq
            (Stmt.region [SOper.mk (some 11) none (SOp.mv (Operand.const (Value.int IntKind.i64 0)))]
              [0, 1, 7, 9, 10, 11])
            (Stmt.seq
              (Stmt.seq
                (Stmt.region
                  [SOper.mk (some 37) none (SOp.mv (Operand.tmp 7)),
                    SOper.mk (some 38) none (SOp.mv (Operand.const (Value.int IntKind.i64 0)))]
                  [0, 1, 7, 9, 10, 11, 37, 38])
                (Stmt.block 4 (Stmt.loop S22_4 [11, 38] [0, 1, 7, 9, 10, 37])))
              (Stmt.seq
                (Stmt.region
                  [SOper.mk (some 53) none (SOp.mv (Operand.tmp 11)), SOper.mk (some 54) none (SOp.mv (Operand.tmp 0)),
                    SOper.mk (some 55) none (SOp.ibin BinOp.lss (Operand.tmp 53) (Operand.tmp 54))]
                  [0, 1, 7, 9, 11, 55])
                (Stmt.cond (Operand.tmp 55)
                  (Stmt.seq
                    (Stmt.region
                      [SOper.mk (some 56) none (SOp.mv (Operand.tmp 11)),
                        SOper.mk (some 57) none (SOp.mv (Operand.tmp 9)),
                        SOper.mk (some 58) none
                          (SOp.ibin BinOp.add (Operand.tmp 57) (Operand.const (Value.int IntKind.i64 1))),
                        SOper.mk (some 59) none (SOp.mv (Operand.tmp 7)),
                        SOper.mk (some 60) none (SOp.ibin BinOp.mul (Operand.tmp 58) (Operand.tmp 59)),
                        SOper.mk (some 4) none (SOp.mv (Operand.tmp 56)),
                        SOper.mk (some 5) none (SOp.mv (Operand.tmp 60)),
                        SOper.mk (some 6) none (SOp.mv (Operand.const (Value.bool true)))]
                      [4, 5, 6])
                    Stmt.ret)
                  Stmt.skip)))))))
    (Stmt.region
      [SOper.mk (some 26) none (SOp.mv (Operand.tmp 9)),
        SOper.mk (some 27) none (SOp.ibin BinOp.add (Operand.tmp 26) (Operand.const (Value.int IntKind.i64 1))),
        SOper.mk (some 9) none (SOp.mv (Operand.tmp 27))]
      [0, 1, 7, 9]))
def S22_0 : Stmt :=
  Stmt.seq
  (Stmt.region
    [SOper.mk (some 4) none (SOp.mv (Operand.const (Value.int IntKind.i64 0))),
      SOper.mk (some 5) none (SOp.mv (Operand.const (Value.int IntKind.i64 0))),
      SOper.mk (some 6) none (SOp.mv (Operand.const (Value.bool false)))]
    [0, 1])
  (Stmt.seq (Stmt.region [SOper.mk (some 7) none (SOp.mv (Operand.const (Value.int IntKind.i64 0)))] [0, 1, 7])
    (Stmt.seq
      (Stmt.seq (Stmt.region [SOper.mk (some 8) none (SOp.mv (Operand.const (Value.int IntKind.i64 1)))] [0, 1, 7, 8])
        (Stmt.block 0 (Stmt.loop S22_1 [7, 8] [0, 1])))
      (Stmt.seq
        (Stmt.seq (Stmt.region [SOper.mk (some 9) none (SOp.mv (Operand.const (Value.int IntKind.i64 0)))] [0, 1, 7, 9])
          (Stmt.block 2 (Stmt.loop S22_5 [9] [0, 1, 7])))
        (Stmt.seq
          (Stmt.region
            [SOper.mk (some 4) none (SOp.mv (Operand.const (Value.int IntKind.i64 0))),
              SOper.mk (some 5) none (SOp.mv (Operand.const (Value.int IntKind.i64 0))),
              SOper.mk (some 6) none (SOp.mv (Operand.const (Value.bool false)))]
            [4, 5, 6])
          Stmt.ret))))
def S22 : FnS := ⟨61, [(4, none), (5, none), (6, none)], S22_0⟩
theorem tr22 : trFn Try.prog 22 [] [[0, 1], [0, 1, 7], [0, 1, 7, 8], [7, 8], [0, 1], [0, 1, 7, 8, 15], [0, 1, 7, 8], [0, 1, 7, 8], [0, 1, 7, 9], [9], [0, 1, 7], [0, 1, 7, 9, 25], [0, 1, 7, 9, 10], [0, 1, 7, 9, 10, 36], [4, 5, 6], [0, 1, 7, 9, 10, 11], [0, 1, 7, 9, 10, 11, 37, 38], [11, 38], [0, 1, 7, 9, 10, 37], [0, 1, 7, 9, 10, 11, 37, 38, 39], [11], [0, 1, 7, 9, 10, 37, 38], [0, 1, 7, 9, 10, 11, 12, 37, 38], [0, 1, 7, 9, 10, 11, 12, 37, 38, 44], [0, 1, 7, 9, 10, 11, 37, 38], [0, 1, 7, 9, 10, 11, 37, 38], [0, 1, 7, 9, 11, 55], [4, 5, 6], [0, 1, 7, 9], [4, 5, 6]] = some S22 := by kernel_rfl
end Go.Proofs.Ytniobbepliknmaa.V
/- Numbers by coins: the plain law of draw.Number and parlref5.Coins, and both walked; no condition. -/
namespace Go.Proofs.Ytniobbepliknmaa.V
open Go
set_option linter.unusedVariables false
set_option linter.unusedSimpArgs false
attribute [local go_sem] e_seq e_region e_quiet e_join e_loop e_cond e_block e_exit e_ret e_skip e_fin e_kseq e_snrm e_sret e_sex e_bnrm e_bret e_bex e_rnrm e_rret e_res e_condC e_nil e_g e_mv g_mv e_pick g_pick pickC_eq e_ibin g_ibin ibinC_eq e_sbin g_sbin e_beq g_beq beqC_eq e_nilq g_nilq nilqC_sl nilqC_pt nilqC_mp e_un g_un unC_not unC_neg e_conv g_conv convC_eq e_fld g_fld fldC_ref fldC_ptr e_nilCheck g_nilCheck nilCheckC_ref nilCheckC_ptr nilCheckC_fun e_field g_field fieldC_eq e_len g_len lenC_sl lenC_str e_extract g_extract extractC_eq e_mkFunc e_build g_build e_idiv g_idiv idivC_eq e_ishift g_ishift ishiftC_eq e_idx g_idx e_idxA g_idxA e_load g_load loadC_ref loadC_ptr loadB_eq e_slc g_slc e_box boxC_loc boxC_esc e_alloc allocC_loc allocC_esc e_buildS e_store storeC_ref storeC_ptr storeB_eq e_append e_appz e_mk mkC_eq e_call callC_eq e_fn g_fn fnC_eq fnV_min' fnV_max' fnV_rune' e_q g_q e_a e_n g_call g_box g_alloc g_buildS g_store g_append g_mk g_a g_n g_dead e_dead e_callK e_drawn e_tree e_finJ e_tk e_tfin e_tno e_nbt_q e_nbt_qn e_nbt_a e_nbt_an e_nbt_fin e_early_nil e_early_t e_early_f e_nob_nil e_nob_none e_nob_some isBox_dead isBox_v isBox_ref e_dnil e_dk e_ek e_finB vcOps_vc1 e_dcons e_tq e_ekt e_tearly e_talt e_dearly look_nil look_c proj_nil proj_c looks_nil looks_c zip_nil zip_c val_tmp val_const val_func slv_v slv_box slv_ref slot_tmp slot_const slot_func slotL_v slotL_box slotL_ref put_some put_none updBox_c boxSet_box gd_eq slotVals_nil slotVals_c slotVals_b boxV_box boxOn_box slotsOn_nil slotsOn_c slotsOn_b resV_one resV_two vals_nil vals_c allOn_nil allOn_c partOn_nil partOn_c partVals_nil partVals_c fits_nil fits_c fillL_nil fillL_c mkv_one mkv_agg cellsV_agg cellsV_int cellsV_bool cellsV_slice cellsV_string cellsV_pointer cellsV_func cellsV_nilf cellsV_map one'_nil one'_c oc_int oc_bool oc_slice oc_string oc_pointer oc_func oc_nilf oc_map setC_eq iv_add iv_sub iv_mul iv_eql iv_neq iv_lss iv_leq iv_gtr iv_geq iok_add iok_sub iok_mul iok_eql iok_neq iok_lss iok_leq iok_gtr iok_geq pickV_bool args0_nil args0_c bnd_none bnd_some imp_bt imp_bf imp_ebt imp_ebf imp_eb1 imp_np imp_pp beq_tt beq_tf beq_ft beq_ff cond_or cond_and e_round e_meet Int.le_refl Int.toNat_zero decide_true decide_false Bool.or_false Bool.false_or Bool.true_or Bool.or_true Bool.and_false Bool.false_and Bool.bne_false Bool.bne_true beq_iff_eq Int.cast_ofNat_Int not_false_eq_true not_true_eq_false false_and and_false false_implies true_implies true_and and_true Bool.true_and Bool.and_true Bool.not_true Bool.not_false forall_const implies_true List.take_zero List.drop_zero List.take_succ_cons List.drop_succ_cons List.take_nil List.drop_nil List.length_cons List.length_nil List.nil_append List.append_nil List.cons_append Int.toNat_natCast decide_eq_true_eq decide_eq_false_iff_not cond_true cond_false and_self List.getElem?_cons_zero List.getElem?_cons_succ List.set_cons_zero List.set_cons_succ Option.some.injEq exists_eq_left' Nat.zero_add Nat.add_zero Nat.mul_one imp_self true_or or_true or_false false_or Bool.or_eq_true Bool.or_eq_false_iff Bool.and_eq_true Bool.and_eq_false_iff Bool.not_eq_true' Bool.not_eq_false'

/-- the number that coins tell, the first one being worth most -/
def bval (l : List Bool) : Nat := l.foldl (fun x c => 2 * x + c.toNat) 0
def coinsG (n b : Nat) (coins : List Bool) : Nat → Nat → Option (Nat × Nat)
  | 0, _ => none
  | f + 1, used => if used + b ≤ coins.length then
      (if bval ((coins.drop used).take b) < n then some (bval ((coins.drop used).take b), used + b) else coinsG n b coins f (used + b)) else none
/-- how many coins tell a number below n -/
def bitsG (n : Nat) : Nat → Nat → Nat
  | 0, b => b
  | f + 1, b => if 2 ^ b < n then bitsG n f (b + 1) else b
def coinsF (n : Nat) (coins : List Bool) : Option (Nat × Nat) := coinsG n (bitsG n 40 0) coins (coins.length + 1) 0

theorem bval_snoc (l : List Bool) (c : Bool) : bval (l ++ [c]) = 2 * bval l + c.toNat := by simp [bval]
theorem bval_lt (l : List Bool) : bval l < 2 ^ l.length := by
  suffices h : ∀ (l : List Bool) (x : Nat), l.foldl (fun x c => 2 * x + c.toNat) x < (x + 1) * 2 ^ l.length by simpa [bval] using h l 0
  intro l
  induction l with
  | nil => intro x; simp
  | cons c l ih =>
    intro x
    have h := ih (2 * x + c.toNat)
    have hc : c.toNat ≤ 1 := by cases c <;> simp
    simp only [List.foldl_cons, List.length_cons]
    refine Nat.lt_of_lt_of_le h ?_
    rw [Nat.pow_succ, Nat.mul_comm (2 ^ l.length) 2, ← Nat.mul_assoc]
    exact Nat.mul_le_mul_right _ (by omega)

/-- the bits that are found are few -/
theorem bitsG_le (n : Nat) (hn : n ≤ 2 ^ 40) : ∀ f b, b + f = 40 → bitsG n f b ≤ 40
  | 0, b, h => by simp [bitsG]; omega
  | f + 1, b, h => by
    simp only [bitsG]
    split
    · exact bitsG_le n hn f (b + 1) (by omega)
    · omega

theorem shl_one (b : Nat) (hb : b ≤ 40) : ishiftV .shl .i64 1 (b : Int) = .int .i64 ((2 ^ b : Nat) : Int) := by
  have h1 : min (b : Int).toNat IntKind.i64.bits = b := by
    have : IntKind.i64.bits = 64 := rfl
    rw [this]; omega
  have h2 : (2 : Nat) ^ b ≤ 2 ^ 40 := Nat.pow_le_pow_right (by omega) hb
  simp only [ishiftV, h1, Int.one_mul]
  rw [wrap_id]
  · simp
  · have : (0 : Int) ≤ ((2 ^ b : Nat) : Int) := Int.natCast_nonneg _
    simp at this ⊢; omega
  · have h3 : ((2 ^ b : Nat) : Int) ≤ ((2 ^ 40 : Nat) : Int) := by exact_mod_cast h2
    simp at h3 ⊢; omega

theorem draw_number {Γr : Ctx} (n : Int) (A : Option Addr) (c : Nat) (coins : List Bool) (hc : SlOk (lk Γr) A c coins) :
    Ret Try.prog 21 [.int .i64 n, .slice A coins.length c] Γr [] (fun v Γ => Γ = [] ∧
      v = if n < 1 ∨ 1000000000 < n then .tuple #[.int .i64 0, .int .i64 0, .int .i64 1] else
        match coinsF n.toNat coins with
        | some (x, u) => .tuple #[.int .i64 x, .int .i64 u, .int .i64 0]
        | none => .tuple #[.int .i64 0, .int .i64 0, .int .i64 5]) := by
  generalize hR : (fun v Γ => Γ = [] ∧ v = _) = R
  refine ret_of_vc tr21 (Nat.le_of_ble_eq_true rfl) ?_
  simp only [S21, S21_0, go_sem, Nat.reduceBEq, Nat.reduceAdd, Nat.reduceSub, Nat.reduceMul, Nat.reduceLeDiff, reduceCtorEq, ↓reduceIte, Int.reduceLT, Int.reduceLE, Int.reduceEq, Int.reduceNe]
  refine ⟨fun h => Up.here ?_, fun hn => ?_⟩
  · subst hR
    rw [if_pos h]
    exact ⟨rfl, rfl⟩
  have hno : ¬ (n < 1 ∨ 1000000000 < n) := by omega
  obtain ⟨m, rfl⟩ : ∃ m : Nat, n = m := ⟨n.toNat, by omega⟩
  have hlen := hc.short
  have hm40 : m ≤ 2 ^ 40 := by omega
  -- how many bits
  refine s_loop (fun f vs Γ => Γ = [] ∧ ∃ b : Nat, vs = [.v true (.int .i64 b)] ∧ b + f = 40 ∧ bitsG m f b = bitsG m 40 0) 40 (Up.here ⟨rfl, 0, rfl, rfl, rfl⟩) ?_
  rintro f vs Γ ⟨rfl, b, rfl, hbf, hb⟩
  simp only [S21_1, go_sem, Nat.reduceBEq, Nat.reduceAdd, Nat.reduceSub, Nat.reduceMul, Nat.reduceLeDiff, reduceCtorEq, ↓reduceIte, Int.reduceLT, Int.reduceLE, Int.reduceEq, Int.reduceNe]
  have hb40 : b ≤ 40 := by omega
  rw [shl_one b hb40]
  simp only [go_sem, Nat.reduceBEq, Nat.reduceAdd, Nat.reduceSub, Nat.reduceMul, Nat.reduceLeDiff, reduceCtorEq, ↓reduceIte, Int.reduceLT, Int.reduceLE, Int.reduceEq, Int.reduceNe]
  refine ⟨by omega, fun hlt => ?_, fun hge => ?_⟩
  · have hf : f ≠ 0 := by
      intro h0
      subst h0
      have : b = 40 := by omega
      subst this
      omega
    obtain ⟨f, rfl⟩ := Nat.exists_eq_succ_of_ne_zero hf
    refine ⟨f, by omega, Up.here ⟨rfl, b + 1, ?_, by omega, ?_⟩⟩
    · rw [wrap_id (by omega) (by omega)]; rfl
    · rw [← hb]
      have : 2 ^ b < m := by exact_mod_cast hlt
      simp [bitsG, this]
  · have hbits : bitsG m 40 0 = b := by
      rw [← hb]
      have : ¬ 2 ^ b < m := by intro q; exact hge (by exact_mod_cast q)
      cases f <;> simp [bitsG, this]
    -- chunk after chunk
    refine s_loop (fun f vs Γ => Γ = [] ∧ ∃ used : Nat, vs = [.v true (.int .i64 used)] ∧ used ≤ coins.length ∧ coins.length < f + used ∧ coinsG m b coins f used = coinsF m coins) (coins.length + 1)
      (Up.here ⟨rfl, 0, rfl, by omega, by omega, by rw [coinsF, hbits]⟩) ?_
    rintro f vs Γ ⟨rfl, used, rfl, hu, hfu, hres⟩
    simp only [S21_5, go_sem, Nat.reduceBEq, Nat.reduceAdd, Nat.reduceSub, Nat.reduceMul, Nat.reduceLeDiff, reduceCtorEq, ↓reduceIte, Int.reduceLT, Int.reduceLE, Int.reduceEq, Int.reduceNe]
    obtain ⟨f, rfl⟩ : ∃ k, f = k + 1 := ⟨f - 1, by omega⟩
    rw [wrap_id (by omega) (by omega)]
    simp only [coinsG] at hres
    refine ⟨fun hle => ?_, fun hgt => ?_⟩
    · have hle' : used + b ≤ coins.length := by omega
      rw [if_pos hle'] at hres
      refine s_slice used (used + b) ?_ ?_ (by omega) (by have := hc.cap; omega) ?_
      · simp only [go_sem, Nat.reduceBEq, Nat.reduceAdd, Nat.reduceSub, Nat.reduceMul, Nat.reduceLeDiff, reduceCtorEq, ↓reduceIte, Int.reduceLT, Int.reduceLE, Int.reduceEq, Int.reduceNe]
        exact ⟨.i64, rfl⟩
      · simp only [go_sem, Nat.reduceBEq, Nat.reduceAdd, Nat.reduceSub, Nat.reduceMul, Nat.reduceLeDiff, reduceCtorEq, ↓reduceIte, Int.reduceLT, Int.reduceLE, Int.reduceEq, Int.reduceNe]
        exact ⟨.i64, by simp⟩
      simp only [go_sem, Nat.reduceBEq, Nat.reduceAdd, Nat.reduceSub, Nat.reduceMul, Nat.reduceLeDiff, reduceCtorEq, ↓reduceIte, Int.reduceLT, Int.reduceLE, Int.reduceEq, Int.reduceNe]
      have hsl := hc.slice (l := used) (m := used + b) (by omega) hle'
      have hck : (coins.take (used + b)).drop used = (coins.drop used).take b := by
        rw [← List.take_drop]
      rw [hck] at hsl
      obtain ⟨ch, hch⟩ : ∃ ch, ch = (coins.drop used).take b := ⟨_, rfl⟩
      have hcl : ch.length = b := by rw [hch]; simp; omega
      rw [← hch] at hsl hres
      obtain ⟨A', hA'⟩ : ∃ A', A' = (if c = used then A else A.map (fun x => x.add used)) := ⟨_, rfl⟩
      have hsl' : SlOk (lk Γr) A' (c - used) ch := by rw [hA']; simpa [Rep.sz] using hsl
      rw [← hA', show used + b - used = b by omega]
      -- the number that the chunk tells
      refine s_loop (fun g vs Γ => Γ = [] ∧ ∃ j : Nat, vs = [.v true (.int .i64 (bval (ch.take j) : Nat)), .v true (.int .i64 j)] ∧ j + g = b) b
        (Up.here ⟨rfl, 0, by simp [bval, looks, look], by omega⟩) ?_
      rintro g vs Γ ⟨rfl, j, rfl, hjg⟩
      have hbv := bval_lt (ch.take j)
      have hb2 : 2 ^ (ch.take j).length ≤ 2 ^ 40 := Nat.pow_le_pow_right (by omega) (by simp; omega)
      simp only [S21_4, go_sem, Nat.reduceBEq, Nat.reduceAdd, Nat.reduceSub, Nat.reduceMul, Nat.reduceLeDiff, reduceCtorEq, ↓reduceIte, Int.reduceLT, Int.reduceLE, Int.reduceEq, Int.reduceNe]
      refine ⟨fun hlt => ?_, fun hge2 => ?_⟩
      · have hj : j < b := by omega
        have hjc : j < ch.length := by omega
        refine s_split ?_
        obtain ⟨bb, oo, rfl, cs, hok, hcells⟩ := hsl'.elem (i := j) (x := ch[j]) (List.getElem?_eq_getElem hjc)
        obtain rfl := ok_bool hok
        simp only [S21_2, S21_3, go_sem, Nat.reduceBEq, Nat.reduceAdd, Nat.reduceSub, Nat.reduceMul, Nat.reduceLeDiff, reduceCtorEq, ↓reduceIte, Int.reduceLT, Int.reduceLE, Int.reduceEq, Int.reduceNe]
        refine s_idx rfl (by omega) (by omega) ?_
        simp only [go_sem, Nat.reduceBEq, Nat.reduceAdd, Nat.reduceSub, Nat.reduceMul, Nat.reduceLeDiff, reduceCtorEq, ↓reduceIte, Int.reduceLT, Int.reduceLE, Int.reduceEq, Int.reduceNe]
        refine s_load (vs := [.bool ch[j]]) (by simpa [Rep.sz] using hcells _ (Mem.le.refl _)) ?_
        simp only [go_sem, Nat.reduceBEq, Nat.reduceAdd, Nat.reduceSub, Nat.reduceMul, Nat.reduceLeDiff, reduceCtorEq, ↓reduceIte, Int.reduceLT, Int.reduceLE, Int.reduceEq, Int.reduceNe]
        have w1 : IntKind.i64.wrap (((bval (ch.take j) : Nat) : Int) * 2) = ((bval (ch.take j) : Nat) : Int) * 2 := wrap_id (by omega) (by omega)
        have w2 : IntKind.i64.wrap (((bval (ch.take j) : Nat) : Int) * 2 + 1) = ((bval (ch.take j) : Nat) : Int) * 2 + 1 := wrap_id (by omega) (by omega)
        have w3 : IntKind.i64.wrap ((j : Int) + 1) = (j : Int) + 1 := wrap_id (by omega) (by omega)
        simp only [w1, w2, w3]
        have htake : ch.take (j + 1) = ch.take j ++ [ch[j]] := by rw [List.take_succ_eq_append_getElem hjc]
        have hstep : bval (ch.take (j + 1)) = 2 * bval (ch.take j) + ch[j].toNat := by rw [htake, bval_snoc]
        refine ⟨fun ht => ?_, fun ht => ?_⟩
        · refine Up.here ⟨g - 1, by omega, Up.here ⟨rfl, j + 1, ?_, by omega⟩⟩
          rw [hstep, ht]
          simp
          omega
        · refine Up.here ⟨g - 1, by omega, Up.here ⟨rfl, j + 1, ?_, by omega⟩⟩
          rw [hstep, ht]
          simp
          omega
      · have hj : j = b := by omega
        subst hj
        have htk : ch.take j = ch := by rw [← hcl]; exact List.take_length
        rw [htk]
        rw [wrap_id (by omega) (by omega)]
        refine ⟨fun hlt => ?_, fun hge3 => ?_⟩
        · have : bval ch < m := by exact_mod_cast hlt
          rw [if_pos this] at hres
          refine Up.here ?_
          subst hR
          refine ⟨rfl, ?_⟩
          rw [if_neg hno]
          simp [← hres]
        · have : ¬ bval ch < m := by intro q; exact hge3 (by exact_mod_cast q)
          rw [if_neg this] at hres
          have hjpos : 0 < j := by
            rcases Nat.eq_zero_or_pos j with q | q
            · subst q
              have : ch = [] := List.eq_nil_of_length_eq_zero hcl
              subst this
              simp [bval] at hge3
              omega
            · exact q
          exact ⟨f, by omega, Up.here ⟨rfl, used + j, by simp, hle', by omega, hres⟩⟩
    · have hgt' : ¬ used + b ≤ coins.length := by omega
      rw [if_neg hgt'] at hres
      refine Up.here ?_
      subst hR
      refine ⟨rfl, ?_⟩
      rw [if_neg hno]
      simp [← hres]

theorem ref_coins {Γr : Ctx} (m : Nat) (hm0 : 1 ≤ m) (hm1 : m ≤ 1000000000) (A : Option Addr) (c : Nat) (coins : List Bool) (hc : SlOk (lk Γr) A c coins) :
    Ret Try.prog 22 [.int .i64 m, .slice A coins.length c] Γr [] (fun v Γ => Γ = [] ∧
      v = match coinsF m coins with
        | some (x, u) => .tuple #[.int .i64 x, .int .i64 u, .bool true]
        | none => .tuple #[.int .i64 0, .int .i64 0, .bool false]) := by
  generalize hR : (fun v Γ => Γ = [] ∧ v = _) = R
  refine ret_of_vc tr22 (Nat.le_of_ble_eq_true rfl) ?_
  simp only [S22, S22_0, go_sem, Nat.reduceBEq, Nat.reduceAdd, Nat.reduceSub, Nat.reduceMul, Nat.reduceLeDiff, reduceCtorEq, ↓reduceIte, Int.reduceLT, Int.reduceLE, Int.reduceEq, Int.reduceNe]
  have hlen := hc.short
  refine s_loop (fun f vs Γ => Γ = [] ∧ ∃ b : Nat, vs = [.v true (.int .i64 b), .v true (.int .i64 (2 ^ b : Nat))] ∧ b + f = 40 ∧ bitsG m f b = bitsG m 40 0) 40 (Up.here ⟨rfl, 0, rfl, rfl, rfl⟩) ?_
  rintro f vs Γ ⟨rfl, b, rfl, hbf, hb⟩
  have hb40 : b ≤ 40 := by omega
  have hpow : 2 ^ b ≤ 2 ^ 40 := Nat.pow_le_pow_right (by omega) hb40
  simp only [S22_1, go_sem, Nat.reduceBEq, Nat.reduceAdd, Nat.reduceSub, Nat.reduceMul, Nat.reduceLeDiff, reduceCtorEq, ↓reduceIte, Int.reduceLT, Int.reduceLE, Int.reduceEq, Int.reduceNe]
  refine ⟨fun hlt => ?_, fun hge => ?_⟩
  · have hlt' : 2 ^ b < m := by exact_mod_cast hlt
    have hf : f ≠ 0 := by
      intro h0
      subst h0
      have : b = 40 := by omega
      subst this
      omega
    obtain ⟨f, rfl⟩ := Nat.exists_eq_succ_of_ne_zero hf
    refine ⟨f, by omega, Up.here ⟨rfl, b + 1, ?_, by omega, ?_⟩⟩
    · have hq : IntKind.i64.wrap (((2 ^ b : Nat) : Int) * 2) = ((2 ^ (b + 1) : Nat) : Int) := by
        rw [Nat.pow_succ]
        obtain ⟨p, hp⟩ : ∃ p, p = 2 ^ b := ⟨_, rfl⟩
        rw [← hp] at hpow ⊢
        rw [wrap_id (by omega) (by omega)]
        rfl
      have hq2 : IntKind.i64.wrap ((b : Int) + 1) = ((b + 1 : Nat) : Int) := wrap_id (by omega) (by omega)
      rw [hq, hq2]
    · rw [← hb]
      simp [bitsG, hlt']
  · have hge' : ¬ 2 ^ b < m := by intro q; exact hge (by exact_mod_cast q)
    have hbits : bitsG m 40 0 = b := by
      rw [← hb]
      cases f <;> simp [bitsG, hge']
    refine s_loop (fun f vs Γ => Γ = [] ∧ ∃ i used : Nat, vs = [.v true (.int .i64 i)] ∧ used = i * b ∧ i ≤ used ∧ used ≤ coins.length ∧ coins.length < f + used ∧ coinsG m b coins f used = coinsF m coins) (coins.length + 1)
      (Up.here ⟨rfl, 0, 0, rfl, by omega, by omega, by omega, by omega, by rw [coinsF, hbits]⟩) ?_
    rintro f vs Γ ⟨rfl, i, used, rfl, hui, hiu, hu, hfu, hres⟩
    have wi : IntKind.i64.wrap ((i : Int) * (b : Int)) = (used : Int) := by
      have : (i : Int) * (b : Int) = (used : Int) := by rw [hui]; simp
      rw [this]
      exact wrap_id (by omega) (by omega)
    simp only [S22_5, wi, go_sem, Nat.reduceBEq, Nat.reduceAdd, Nat.reduceSub, Nat.reduceMul, Nat.reduceLeDiff, reduceCtorEq, ↓reduceIte, Int.reduceLT, Int.reduceLE, Int.reduceEq, Int.reduceNe]
    obtain ⟨f, rfl⟩ : ∃ k, f = k + 1 := ⟨f - 1, by omega⟩
    simp only [coinsG] at hres
    refine ⟨fun _ => ?_, fun hgt => by omega⟩
    refine s_slice used coins.length ?_ ?_ (by omega) hc.cap ?_
    · simp only [go_sem, Nat.reduceBEq, Nat.reduceAdd, Nat.reduceSub, Nat.reduceMul, Nat.reduceLeDiff, reduceCtorEq, ↓reduceIte, Int.reduceLT, Int.reduceLE, Int.reduceEq, Int.reduceNe]
      exact ⟨.i64, rfl⟩
    · simp only [go_sem, Nat.reduceBEq, Nat.reduceAdd, Nat.reduceSub, Nat.reduceMul, Nat.reduceLeDiff, reduceCtorEq, ↓reduceIte, Int.reduceLT, Int.reduceLE, Int.reduceEq, Int.reduceNe]
    simp only [go_sem, Nat.reduceBEq, Nat.reduceAdd, Nat.reduceSub, Nat.reduceMul, Nat.reduceLeDiff, reduceCtorEq, ↓reduceIte, Int.reduceLT, Int.reduceLE, Int.reduceEq, Int.reduceNe]
    have hsl := hc.slice (l := used) (m := coins.length) (by omega) (Nat.le_refl _)
    rw [List.take_length] at hsl
    refine ⟨fun hshort => ?_, fun hlong => ?_⟩
    · have : ¬ used + b ≤ coins.length := by omega
      rw [if_neg this] at hres
      refine Up.here ?_
      subst hR
      exact ⟨rfl, by simp [← hres]⟩
    have hle' : used + b ≤ coins.length := by omega
    rw [if_pos hle'] at hres
    obtain ⟨A', hA'⟩ : ∃ A', A' = (if c = used then A else A.map (fun x => x.add used)) := ⟨_, rfl⟩
    have hsl' : SlOk (lk Γr) A' (c - used) (coins.drop used) := by rw [hA']; simpa [Rep.sz] using hsl
    rw [← hA']
    obtain ⟨ch, hch⟩ : ∃ ch, ch = (coins.drop used).take b := ⟨_, rfl⟩
    have hcl : ch.length = b := by rw [hch]; simp; omega
    rw [← hch] at hres
    -- the sum of what the coins are worth
    refine s_loop (fun g vs Γ => Γ = [] ∧ ∃ j : Nat, vs = [.v true (.int .i64 (bval (ch.take j) * 2 ^ (b - j) : Nat)), .v true (.int .i64 j)] ∧ j + g = b) b
      (Up.here ⟨rfl, 0, by simp [bval, looks, look], by omega⟩) ?_
    rintro g vs Γ ⟨rfl, j, rfl, hjg⟩
    have hbv := bval_lt (ch.take j)
    have hbnd : bval (ch.take j) * 2 ^ (b - j) + 2 ^ (b - j) ≤ 2 ^ 40 := by
      have h1 : (bval (ch.take j) + 1) * 2 ^ (b - j) ≤ 2 ^ j * 2 ^ (b - j) := Nat.mul_le_mul_right _ (by
        have : (ch.take j).length = j := by simp; omega
        rw [this] at hbv
        omega)
      rw [← Nat.pow_add, show j + (b - j) = b by omega, Nat.add_mul, Nat.one_mul] at h1
      omega
    simp only [S22_4, go_sem, Nat.reduceBEq, Nat.reduceAdd, Nat.reduceSub, Nat.reduceMul, Nat.reduceLeDiff, reduceCtorEq, ↓reduceIte, Int.reduceLT, Int.reduceLE, Int.reduceEq, Int.reduceNe]
    refine ⟨fun hlt => ?_, fun hge2 => ?_⟩
    · have hj : j < b := by omega
      have hjc : j < ch.length := by omega
      have hjd : j < (coins.drop used).length := by simp; omega
      have hcj : (coins.drop used)[j] = ch[j] := by simp [hch]
      refine s_split ?_
      obtain ⟨bb, oo, rfl, cs, hok, hcells⟩ := hsl'.elem (i := j) (x := ch[j]) (by rw [← hcj]; exact List.getElem?_eq_getElem hjd)
      obtain rfl := ok_bool hok
      have w1 : IntKind.i64.wrap ((b : Int) - 1) = (b : Int) - 1 := wrap_id (by omega) (by omega)
      have w2 : IntKind.i64.wrap ((b : Int) - 1 - (j : Int)) = ((b - 1 - j : Nat) : Int) := by rw [wrap_id (by omega) (by omega)]; omega
      have w3 : IntKind.i64.wrap ((j : Int) + 1) = ((j + 1 : Nat) : Int) := wrap_id (by omega) (by omega)
      have hsplit : 2 ^ (b - j) = 2 ^ (b - 1 - j) * 2 := by rw [← Nat.pow_succ]; congr 1; omega
      have w4 : IntKind.i64.wrap (((bval (ch.take j) * 2 ^ (b - j) : Nat) : Int) + ((2 ^ (b - 1 - j) : Nat) : Int)) = ((bval (ch.take j) * 2 ^ (b - j) + 2 ^ (b - 1 - j) : Nat) : Int) := by
        rw [wrap_id (by omega) (by omega)]; rfl
      have htake : ch.take (j + 1) = ch.take j ++ [ch[j]] := by rw [List.take_succ_eq_append_getElem hjc]
      have hstep : bval (ch.take (j + 1)) = 2 * bval (ch.take j) + ch[j].toNat := by rw [htake, bval_snoc]
      have hexp : b - (j + 1) = b - 1 - j := by omega
      have hnext : bval (ch.take (j + 1)) * 2 ^ (b - (j + 1)) = bval (ch.take j) * 2 ^ (b - j) + ch[j].toNat * 2 ^ (b - 1 - j) := by
        rw [hstep, hexp, hsplit, Nat.add_mul, Nat.mul_comm 2, Nat.mul_assoc, Nat.mul_comm 2]
      simp only [S22_2, S22_3, go_sem, Nat.reduceBEq, Nat.reduceAdd, Nat.reduceSub, Nat.reduceMul, Nat.reduceLeDiff, reduceCtorEq, ↓reduceIte, Int.reduceLT, Int.reduceLE, Int.reduceEq, Int.reduceNe]
      refine s_idx rfl (by omega) (by simp; omega) ?_
      simp only [go_sem, Nat.reduceBEq, Nat.reduceAdd, Nat.reduceSub, Nat.reduceMul, Nat.reduceLeDiff, reduceCtorEq, ↓reduceIte, Int.reduceLT, Int.reduceLE, Int.reduceEq, Int.reduceNe]
      refine s_load (vs := [.bool ch[j]]) (by simpa [Rep.sz] using hcells _ (Mem.le.refl _)) ?_
      simp only [w1, w2, shl_one (b - 1 - j) (by omega), w3, w4, go_sem, Nat.reduceBEq, Nat.reduceAdd, Nat.reduceSub, Nat.reduceMul, Nat.reduceLeDiff, reduceCtorEq, ↓reduceIte, Int.reduceLT, Int.reduceLE, Int.reduceEq, Int.reduceNe]
      refine ⟨fun ht => ⟨by omega, ?_⟩, fun ht => ?_⟩
      · refine Up.here ⟨g - 1, by omega, Up.here ⟨rfl, j + 1, ?_, by omega⟩⟩
        rw [hnext, ht]
        simp
      · refine Up.here ⟨g - 1, by omega, Up.here ⟨rfl, j + 1, ?_, by omega⟩⟩
        rw [hnext, ht]
        simp
    · have hj : j = b := by omega
      subst hj
      have htk : ch.take j = ch := by rw [← hcl]; exact List.take_length
      rw [htk]
      simp only [Nat.sub_self, Nat.pow_zero, Nat.mul_one]
      have hx : bval ch < 2 ^ j := by have := bval_lt ch; rwa [hcl] at this
      have hjle : 2 ^ j ≤ 2 ^ 40 := Nat.pow_le_pow_right (by omega) (by omega)
      refine ⟨fun hlt => ?_, fun hge3 => ?_⟩
      · have : bval ch < m := by exact_mod_cast hlt
        rw [if_pos this] at hres
        have w5 : IntKind.i64.wrap ((i : Int) + 1) = ((i + 1 : Nat) : Int) := wrap_id (by omega) (by omega)
        have w6 : IntKind.i64.wrap (((i + 1 : Nat) : Int) * (j : Int)) = ((used + j : Nat) : Int) := by
          have : ((i + 1 : Nat) : Int) * (j : Int) = ((used + j : Nat) : Int) := by rw [hui, ← Nat.add_one_mul]; simp
          rw [this]
          exact wrap_id (by omega) (by omega)
        rw [w5, w6]
        refine Up.here ?_
        subst hR
        exact ⟨rfl, by simp [← hres]⟩
      · have : ¬ bval ch < m := by intro q; exact hge3 (by exact_mod_cast q)
        rw [if_neg this] at hres
        have hjpos : 0 < j := by
          rcases Nat.eq_zero_or_pos j with q | q
          · subst q
            have : ch = [] := List.eq_nil_of_length_eq_zero hcl
            subst this
            simp [bval] at hge3
            omega
          · exact q
        refine ⟨f, by omega, Up.here ⟨rfl, i + 1, used + j, by simp; exact wrap_id (by omega) (by omega), by rw [hui, Nat.add_mul, Nat.one_mul], by omega, hle', by omega, hres⟩⟩
end Go.Proofs.Ytniobbepliknmaa.V
/- The text of slices.Equal[[]int,int] as a statement (slots: 0 s1, 1 s2, 2 s1, 3 s2, 5 i); no condition. -/
namespace Go.Proofs.Ytniobbepliknmaa.V
open Go
def S28_1 : Stmt :=
  Stmt.seq
  (Stmt.region [SOper.mk (some 14) none (SOp.ibin BinOp.lss (Operand.tmp 13) (Operand.tmp 12))] [0, 1, 12, 13, 14])
  (Stmt.seq (Stmt.cond (Operand.tmp 14) Stmt.skip (Stmt.exit 0))
    (Stmt.seq
      (Stmt.block 1
        (Stmt.seq
          (Stmt.region
            [SOper.mk (some 15) none (SOp.mv (Operand.tmp 13)), SOper.mk (some 5) none (SOp.mv (Operand.tmp 15))]
            [0, 1, 5, 12, 13])
          (Stmt.seq
            (Stmt.quiet
              [SOper.mk (some 16) none (SOp.mv (Operand.tmp 0)), SOper.mk (some 17) none (SOp.mv (Operand.tmp 5)),
                SOper.mk (some 18) none (SOp.idx 1 (Operand.tmp 16) (Operand.tmp 17)),
                SOper.mk (some 19) none (SOp.load false 1 (Operand.tmp 18)),
                SOper.mk (some 20) none (SOp.mv (Operand.tmp 1)), SOper.mk (some 21) none (SOp.mv (Operand.tmp 5)),
                SOper.mk (some 22) none (SOp.idx 1 (Operand.tmp 20) (Operand.tmp 21)),
                SOper.mk (some 23) none (SOp.load false 1 (Operand.tmp 22)),
                SOper.mk (some 24) none (SOp.ibin BinOp.neq (Operand.tmp 19) (Operand.tmp 23))]
              [0, 1, 12, 13, 24])
            (Stmt.cond (Operand.tmp 24)
              (Stmt.seq (Stmt.region [SOper.mk (some 4) none (SOp.mv (Operand.const (Value.bool false)))] [4]) Stmt.ret)
              Stmt.skip))))
      (Stmt.region
        [SOper.mk (some 25) none (SOp.ibin BinOp.add (Operand.tmp 13) (Operand.const (Value.int IntKind.i64 1))),
          SOper.mk (some 13) none (SOp.mv (Operand.tmp 25))]
        [0, 1, 12, 13])))
def S28_0 : Stmt :=
  Stmt.seq (Stmt.region [SOper.mk (some 4) none (SOp.mv (Operand.const (Value.bool false)))] [0, 1])
  (Stmt.seq
    (Stmt.seq
      (Stmt.region
        [SOper.mk (some 6) none (SOp.mv (Operand.tmp 0)), SOper.mk (some 7) none (SOp.len false (Operand.tmp 6)),
          SOper.mk (some 8) none (SOp.mv (Operand.tmp 1)), SOper.mk (some 9) none (SOp.len false (Operand.tmp 8)),
          SOper.mk (some 10) none (SOp.ibin BinOp.neq (Operand.tmp 7) (Operand.tmp 9))]
        [0, 1, 10])
      (Stmt.cond (Operand.tmp 10)
        (Stmt.seq (Stmt.region [SOper.mk (some 4) none (SOp.mv (Operand.const (Value.bool false)))] [4]) Stmt.ret)
        Stmt.skip))
    (Stmt.seq
      (Stmt.seq
        (Stmt.region
          [SOper.mk (some 11) none (SOp.mv (Operand.tmp 0)), SOper.mk (some 12) none (SOp.len false (Operand.tmp 11)),
            SOper.mk (some 13) none (SOp.mv (Operand.const (Value.int IntKind.i64 0)))]
          [0, 1, 12, 13])
        (Stmt.block 0 (Stmt.loop S28_1 [13] [0, 1, 12])))
      (Stmt.seq (Stmt.region [SOper.mk (some 4) none (SOp.mv (Operand.const (Value.bool true)))] [4]) Stmt.ret)))
def S28 : FnS := ⟨26, [(4, none)], S28_0⟩
theorem tr28 : trFn Try.prog 28 [] [[0, 1], [0, 1, 10], [4], [0, 1, 12, 13], [13], [0, 1, 12], [0, 1, 12, 13, 14], [0, 1, 5, 12, 13], [0, 1, 12, 13, 24], [4], [0, 1, 12, 13], [4]] = some S28 := by kernel_rfl
end Go.Proofs.Ytniobbepliknmaa.V
/- The text of slices.Delete[[]int,int] as a statement (slots: 0 s, 1 i, 2 j, 3 s, 4 i, 5 j, 7 oldlen); no condition. -/
namespace Go.Proofs.Ytniobbepliknmaa.V
open Go
def S29_0 : Stmt :=
  Stmt.seq (Stmt.region [SOper.mk (some 6) none (SOp.mv (Operand.const (Value.slice none 0 0)))] [0, 1, 2])
  (Stmt.seq
    (Stmt.region
      [SOper.mk (some 8) none (SOp.mv (Operand.tmp 0)), SOper.mk (some 9) none (SOp.mv (Operand.tmp 1)),
        SOper.mk (some 10) none (SOp.mv (Operand.tmp 2)), SOper.mk (some 11) none (SOp.mv (Operand.tmp 0)),
        SOper.mk (some 12) none (SOp.len false (Operand.tmp 11)),
        SOper.mk (some 13) none
          (SOp.q (Qk.slc 29 true true true) [Operand.tmp 8, Operand.tmp 9, Operand.tmp 10, Operand.tmp 12])]
      [0, 1, 2])
    (Stmt.seq
      (Stmt.seq
        (Stmt.region
          [SOper.mk (some 14) none (SOp.mv (Operand.tmp 1)), SOper.mk (some 15) none (SOp.mv (Operand.tmp 2)),
            SOper.mk (some 16) none (SOp.ibin BinOp.eql (Operand.tmp 14) (Operand.tmp 15))]
          [0, 1, 2, 16])
        (Stmt.cond (Operand.tmp 16)
          (Stmt.seq
            (Stmt.region
              [SOper.mk (some 17) none (SOp.mv (Operand.tmp 0)), SOper.mk (some 6) none (SOp.mv (Operand.tmp 17))] [6])
            Stmt.ret)
          Stmt.skip))
      (Stmt.seq
        (Stmt.region
          [SOper.mk (some 18) none (SOp.mv (Operand.tmp 0)), SOper.mk (some 19) none (SOp.len false (Operand.tmp 18)),
            SOper.mk (some 7) none (SOp.mv (Operand.tmp 19))]
          [0, 1, 2, 7])
        (Stmt.seq
          (Stmt.drawn
            [(false, SOper.mk (some 20) none (SOp.mv (Operand.tmp 0))),
              (false, SOper.mk (some 21) none (SOp.mv (Operand.tmp 1))),
              (false, SOper.mk (some 22) none (SOp.slc 1 (Operand.tmp 20) none (some (Operand.tmp 21)) none)),
              (false, SOper.mk (some 23) none (SOp.mv (Operand.tmp 0))),
              (false, SOper.mk (some 24) none (SOp.mv (Operand.tmp 2))),
              (false, SOper.mk (some 25) none (SOp.slc 1 (Operand.tmp 23) (some (Operand.tmp 24)) none none)),
              (false,
                SOper.mk (some 26) none
                  (SOp.append 29 3 1 8 (Value.int IntKind.i64 0) (Operand.tmp 22) (Operand.tmp 25))),
              (false, SOper.mk (some 0) none (SOp.mv (Operand.tmp 26)))]
            [0, 7])
          (Stmt.seq
            (Stmt.region
              [SOper.mk (some 27) none (SOp.mv (Operand.tmp 0)), SOper.mk (some 28) none (SOp.mv (Operand.tmp 0)),
                SOper.mk (some 29) none (SOp.len false (Operand.tmp 28)),
                SOper.mk (some 30) none (SOp.mv (Operand.tmp 7)),
                SOper.mk (some 31) none
                  (SOp.slc 1 (Operand.tmp 27) (some (Operand.tmp 29)) (some (Operand.tmp 30)) none),
                SOper.mk none none (SOp.a (Qk.bi 1 [29]) [Operand.tmp 31])]
              [0])
            (Stmt.seq
              (Stmt.region
                [SOper.mk (some 32) none (SOp.mv (Operand.tmp 0)), SOper.mk (some 6) none (SOp.mv (Operand.tmp 32))]
                [6])
              Stmt.ret))))))
def S29 : FnS := ⟨33, [(6, none)], S29_0⟩
theorem tr29 : trFn Try.prog 29 [] [[0, 1, 2], [0, 1, 2], [0, 1, 2, 16], [6], [0, 1, 2, 7], [0, 7], [0, 1, 2, 3, 4, 5, 6, 7], [], [], [], [0, 1], [], [], [3, 4], [0, 1, 2, 3, 4, 5], [0, 1, 2, 3, 4, 5, 6], [0], [6]] = some S29 := by kernel_rfl
end Go.Proofs.Ytniobbepliknmaa.V
/- The text of parlance/draw.Order as a statement (slots: 0 n, 1 coins, 2 n, 3 coins, 7 left, 8 out, 9 i, 10 used, 11 i, 12 k, 13 e); no condition. -/
namespace Go.Proofs.Ytniobbepliknmaa.V
open Go
def S27_1 : Stmt :=
  Stmt.seq
  (Stmt.region [SOper.mk (some 22) none (SOp.ibin BinOp.lss (Operand.tmp 21) (Operand.tmp 20))] [1, 7, 8, 20, 21, 22])
  (Stmt.seq (Stmt.cond (Operand.tmp 22) Stmt.skip (Stmt.exit 0))
    (Stmt.seq
      (Stmt.block 1
        (Stmt.seq
          (Stmt.region
            [SOper.mk (some 23) none (SOp.mv (Operand.tmp 21)), SOper.mk (some 9) none (SOp.mv (Operand.tmp 23))]
            [1, 7, 8, 9, 20, 21])
          (Stmt.region
            [SOper.mk (some 24) none (SOp.mv (Operand.tmp 7)), SOper.mk (some 25) none (SOp.mv (Operand.tmp 9)),
              SOper.mk (some 26) none (SOp.buildS 3 1 [Value.int IntKind.i64 0] [(0, 1, Operand.tmp 25)]),
              SOper.mk (some 27) none (SOp.append 29 3 1 8 (Value.int IntKind.i64 0) (Operand.tmp 24) (Operand.tmp 26)),
              SOper.mk (some 7) none (SOp.mv (Operand.tmp 27))]
            [1, 7, 8, 20, 21])))
      (Stmt.region
        [SOper.mk (some 28) none (SOp.ibin BinOp.add (Operand.tmp 21) (Operand.const (Value.int IntKind.i64 1))),
          SOper.mk (some 21) none (SOp.mv (Operand.tmp 28))]
        [1, 7, 8, 20, 21])))
def S27_2 : Stmt :=
  Stmt.seq
  (Stmt.seq
    (Stmt.region
      [SOper.mk (some 29) none (SOp.mv (Operand.tmp 7)), SOper.mk (some 30) none (SOp.len false (Operand.tmp 29)),
        SOper.mk (some 31) none (SOp.ibin BinOp.gtr (Operand.tmp 30) (Operand.const (Value.int IntKind.i64 0)))]
      [1, 7, 8, 10, 31])
    (Stmt.cond (Operand.tmp 31) Stmt.skip (Stmt.exit 2)))
  (Stmt.block 3
    (Stmt.seq
      (Stmt.region
        [SOper.mk (some 33) none (SOp.mv (Operand.tmp 7)), SOper.mk (some 34) none (SOp.len false (Operand.tmp 33)),
          SOper.mk (some 35) none (SOp.mv (Operand.tmp 1)), SOper.mk (some 36) none (SOp.mv (Operand.tmp 10)),
          SOper.mk (some 37) none (SOp.slc 1 (Operand.tmp 35) (some (Operand.tmp 36)) none none),
          SOper.mk (some 38) none (SOp.call (Operand.func 21) [Operand.tmp 34, Operand.tmp 37]),
          SOper.mk (some 32) none (SOp.mv (Operand.tmp 38)), SOper.mk (some 39) none (SOp.extract 0 (Operand.tmp 32)),
          SOper.mk (some 40) none (SOp.extract 1 (Operand.tmp 32)),
          SOper.mk (some 41) none (SOp.extract 2 (Operand.tmp 32)), SOper.mk (some 11) none (SOp.mv (Operand.tmp 39)),
          SOper.mk (some 12) none (SOp.mv (Operand.tmp 40)), SOper.mk (some 13) none (SOp.mv (Operand.tmp 41))]
        [1, 7, 8, 10, 11, 12, 13])
      (Stmt.seq
        (Stmt.seq
          (Stmt.region
            [SOper.mk (some 42) none (SOp.mv (Operand.tmp 13)),
              SOper.mk (some 43) none (SOp.ibin BinOp.neq (Operand.tmp 42) (Operand.const (Value.int IntKind.i64 0)))]
            [1, 7, 8, 10, 11, 12, 13, 43])
          (Stmt.cond (Operand.tmp 43)
            (Stmt.seq
              (Stmt.region
                [SOper.mk (some 44) none (SOp.mv (Operand.tmp 13)),
                  SOper.mk (some 4) none (SOp.mv (Operand.const (Value.slice none 0 0))),
                  SOper.mk (some 5) none (SOp.mv (Operand.const (Value.int IntKind.i64 0))),
                  SOper.mk (some 6) none (SOp.mv (Operand.tmp 44))]
                [4, 5, 6])
              Stmt.ret)
            Stmt.skip))
        (Stmt.seq
          (Stmt.region
            [SOper.mk (some 45) none (SOp.mv (Operand.tmp 10)), SOper.mk (some 46) none (SOp.mv (Operand.tmp 12)),
              SOper.mk (some 47) none (SOp.ibin BinOp.add (Operand.tmp 45) (Operand.tmp 46)),
              SOper.mk (some 10) none (SOp.mv (Operand.tmp 47))]
            [1, 7, 8, 10, 11])
          (Stmt.seq
            (Stmt.region
              [SOper.mk (some 48) none (SOp.mv (Operand.tmp 8)), SOper.mk (some 49) none (SOp.mv (Operand.tmp 7)),
                SOper.mk (some 50) none (SOp.mv (Operand.tmp 11)),
                SOper.mk (some 51) none (SOp.idx 1 (Operand.tmp 49) (Operand.tmp 50)),
                SOper.mk (some 52) none (SOp.load false 1 (Operand.tmp 51)),
                SOper.mk (some 53) none (SOp.buildS 3 1 [Value.int IntKind.i64 0] [(0, 1, Operand.tmp 52)]),
                SOper.mk (some 54) none
                  (SOp.append 29 3 1 8 (Value.int IntKind.i64 0) (Operand.tmp 48) (Operand.tmp 53)),
                SOper.mk (some 8) none (SOp.mv (Operand.tmp 54))]
              [1, 7, 8, 10, 11])
            (Stmt.drawn
              [(false, SOper.mk (some 55) none (SOp.mv (Operand.tmp 7))),
                (false, SOper.mk (some 56) none (SOp.mv (Operand.tmp 11))),
                (false, SOper.mk (some 57) none (SOp.slc 1 (Operand.tmp 55) none (some (Operand.tmp 56)) none)),
                (false, SOper.mk (some 58) none (SOp.mv (Operand.tmp 7))),
                (false, SOper.mk (some 59) none (SOp.mv (Operand.tmp 11))),
                (false,
                  SOper.mk (some 60) none
                    (SOp.ibin BinOp.add (Operand.tmp 59) (Operand.const (Value.int IntKind.i64 1)))),
                (false, SOper.mk (some 61) none (SOp.slc 1 (Operand.tmp 58) (some (Operand.tmp 60)) none none)),
                (false,
                  SOper.mk (some 62) none
                    (SOp.append 29 3 1 8 (Value.int IntKind.i64 0) (Operand.tmp 57) (Operand.tmp 61))),
                (false, SOper.mk (some 7) none (SOp.mv (Operand.tmp 62)))]
              [1, 7, 8, 10]))))))
def S27_0 : Stmt :=
  Stmt.seq
  (Stmt.region
    [SOper.mk (some 4) none (SOp.mv (Operand.const (Value.slice none 0 0))),
      SOper.mk (some 5) none (SOp.mv (Operand.const (Value.int IntKind.i64 0))),
      SOper.mk (some 6) none (SOp.mv (Operand.const (Value.int IntKind.i64 0)))]
    [0, 1])
  (Stmt.seq
    (Stmt.seq
      (Stmt.region
        [SOper.mk (some 14) none (SOp.mv (Operand.tmp 0)),
          SOper.mk (some 15) none (SOp.ibin BinOp.lss (Operand.tmp 14) (Operand.const (Value.int IntKind.i64 0))),
          SOper.mk (some 16) none (SOp.mv (Operand.tmp 15)),
          SOper.mk (some 17) (some (16, false)) (SOp.mv (Operand.tmp 0)),
          SOper.mk (some 18) (some (16, false))
            (SOp.ibin BinOp.gtr (Operand.tmp 17) (Operand.const (Value.int IntKind.i64 100))),
          SOper.mk (some 19) none (SOp.pick (Operand.tmp 16) (Operand.const (Value.bool true)) (Operand.tmp 18))]
        [0, 1, 19])
      (Stmt.cond (Operand.tmp 19)
        (Stmt.seq
          (Stmt.region
            [SOper.mk (some 4) none (SOp.mv (Operand.const (Value.slice none 0 0))),
              SOper.mk (some 5) none (SOp.mv (Operand.const (Value.int IntKind.i64 0))),
              SOper.mk (some 6) none (SOp.mv (Operand.const (Value.int IntKind.i64 1)))]
            [4, 5, 6])
          Stmt.ret)
        Stmt.skip))
    (Stmt.seq
      (Stmt.region
        [SOper.mk (some 7) none (SOp.mv (Operand.const (Value.slice none 0 0))),
          SOper.mk (some 8) none (SOp.mv (Operand.const (Value.slice none 0 0)))]
        [0, 1, 7, 8])
      (Stmt.seq
        (Stmt.seq
          (Stmt.region
            [SOper.mk (some 20) none (SOp.mv (Operand.tmp 0)),
              SOper.mk (some 21) none (SOp.mv (Operand.const (Value.int IntKind.i64 0)))]
            [1, 7, 8, 20, 21])
          (Stmt.block 0 (Stmt.loop S27_1 [7, 21] [1, 8, 20])))
        (Stmt.seq
          (Stmt.region [SOper.mk (some 10) none (SOp.mv (Operand.const (Value.int IntKind.i64 0)))] [1, 7, 8, 10])
          (Stmt.seq (Stmt.block 2 (Stmt.loop S27_2 [7, 8, 10] [1]))
            (Stmt.seq
              (Stmt.region
                [SOper.mk (some 63) none (SOp.mv (Operand.tmp 8)), SOper.mk (some 64) none (SOp.mv (Operand.tmp 10)),
                  SOper.mk (some 4) none (SOp.mv (Operand.tmp 63)), SOper.mk (some 5) none (SOp.mv (Operand.tmp 64)),
                  SOper.mk (some 6) none (SOp.mv (Operand.const (Value.int IntKind.i64 0)))]
                [4, 5, 6])
              Stmt.ret))))))
def S27 : FnS := ⟨65, [(4, none), (5, none), (6, none)], S27_0⟩
theorem tr27 : trFn Try.prog 27 [] [[0, 1], [0, 1, 19], [4, 5, 6], [0, 1, 7, 8], [1, 7, 8, 20, 21], [7, 21], [1, 8, 20], [1, 7, 8, 20, 21, 22], [1, 7, 8, 9, 20, 21], [1, 7, 8, 20, 21], [1, 7, 8, 20, 21], [1, 7, 8, 10], [7, 8, 10], [1], [1, 7, 8, 10, 31], [1, 7, 8, 10, 11, 12, 13], [1, 7, 8, 10, 11, 12, 13, 43], [4, 5, 6], [1, 7, 8, 10, 11], [1, 7, 8, 10, 11], [1, 7, 8, 10], [0, 1, 2, 3, 4, 5, 6, 7, 8], [], [], [], [0, 1], [], [], [4], [3, 4, 5], [0, 1, 2, 3, 4, 5, 6], [0, 1, 2, 3, 4, 5, 6, 7], [4, 5, 6]] = some S27 := by kernel_rfl
end Go.Proofs.Ytniobbepliknmaa.V
/- Orders by coins: slices.Equal, slices.Delete and draw.Order walked; no condition. -/
namespace Go.Proofs.Ytniobbepliknmaa.V
open Go
set_option linter.unusedVariables false
set_option linter.unusedSimpArgs false
attribute [local go_sem] e_seq e_region e_quiet e_join e_loop e_cond e_block e_exit e_ret e_skip e_fin e_kseq e_snrm e_sret e_sex e_bnrm e_bret e_bex e_rnrm e_rret e_res e_condC e_nil e_g e_mv g_mv e_pick g_pick pickC_eq e_ibin g_ibin ibinC_eq e_sbin g_sbin e_beq g_beq beqC_eq e_nilq g_nilq nilqC_sl nilqC_pt nilqC_mp e_un g_un unC_not unC_neg e_conv g_conv convC_eq e_fld g_fld fldC_ref fldC_ptr e_nilCheck g_nilCheck nilCheckC_ref nilCheckC_ptr nilCheckC_fun e_field g_field fieldC_eq e_len g_len lenC_sl lenC_str e_extract g_extract extractC_eq e_mkFunc e_build g_build e_idiv g_idiv idivC_eq e_ishift g_ishift ishiftC_eq e_idx g_idx e_idxA g_idxA e_load g_load loadC_ref loadC_ptr loadB_eq e_slc g_slc e_box boxC_loc boxC_esc e_alloc allocC_loc allocC_esc e_buildS e_store storeC_ref storeC_ptr storeB_eq e_append e_appz e_mk mkC_eq e_call callC_eq e_fn g_fn fnC_eq fnV_min' fnV_max' fnV_rune' e_q g_q e_a e_n g_call g_box g_alloc g_buildS g_store g_append g_mk g_a g_n g_dead e_dead e_callK e_drawn e_tree e_finJ e_tk e_tfin e_tno e_nbt_q e_nbt_qn e_nbt_a e_nbt_an e_nbt_fin e_early_nil e_early_t e_early_f e_nob_nil e_nob_none e_nob_some isBox_dead isBox_v isBox_ref e_dnil e_dk e_ek e_finB vcOps_vc1 e_dcons e_tq e_ekt e_tearly e_talt e_dearly look_nil look_c proj_nil proj_c looks_nil looks_c zip_nil zip_c val_tmp val_const val_func slv_v slv_box slv_ref slot_tmp slot_const slot_func slotL_v slotL_box slotL_ref put_some put_none updBox_c boxSet_box gd_eq slotVals_nil slotVals_c slotVals_b boxV_box boxOn_box slotsOn_nil slotsOn_c slotsOn_b resV_one resV_two vals_nil vals_c allOn_nil allOn_c partOn_nil partOn_c partVals_nil partVals_c fits_nil fits_c fillL_nil fillL_c mkv_one mkv_agg cellsV_agg cellsV_int cellsV_bool cellsV_slice cellsV_string cellsV_pointer cellsV_func cellsV_nilf cellsV_map one'_nil one'_c oc_int oc_bool oc_slice oc_string oc_pointer oc_func oc_nilf oc_map setC_eq iv_add iv_sub iv_mul iv_eql iv_neq iv_lss iv_leq iv_gtr iv_geq iok_add iok_sub iok_mul iok_eql iok_neq iok_lss iok_leq iok_gtr iok_geq pickV_bool args0_nil args0_c bnd_none bnd_some imp_bt imp_bf imp_ebt imp_ebf imp_eb1 imp_np imp_pp beq_tt beq_tf beq_ft beq_ff cond_or cond_and e_round e_meet Int.le_refl Int.toNat_zero decide_true decide_false Bool.or_false Bool.false_or Bool.true_or Bool.or_true Bool.and_false Bool.false_and Bool.bne_false Bool.bne_true beq_iff_eq Int.cast_ofNat_Int not_false_eq_true not_true_eq_false false_and and_false false_implies true_implies true_and and_true Bool.true_and Bool.and_true Bool.not_true Bool.not_false forall_const implies_true List.take_zero List.drop_zero List.take_succ_cons List.drop_succ_cons List.take_nil List.drop_nil List.length_cons List.length_nil List.nil_append List.append_nil List.cons_append Int.toNat_natCast decide_eq_true_eq decide_eq_false_iff_not cond_true cond_false and_self List.getElem?_cons_zero List.getElem?_cons_succ List.set_cons_zero List.set_cons_succ Option.some.injEq exists_eq_left' Nat.zero_add Nat.add_zero Nat.mul_one imp_self true_or or_true or_false false_or Bool.or_eq_true Bool.or_eq_false_iff Bool.and_eq_true Bool.and_eq_false_iff Bool.not_eq_true' Bool.not_eq_false'

theorem take_eq_succ {α : Type} {xs ys : List α} {k : Nat} (hk : k < xs.length) (hk' : k < ys.length) (h : xs.take k = ys.take k) (e : xs[k] = ys[k]) : xs.take (k + 1) = ys.take (k + 1) := by
  rw [List.take_succ_eq_append_getElem hk, List.take_succ_eq_append_getElem hk', h, e]

theorem slices_equal {Γr : Ctx} {A B : Option Addr} {c d : Nat} {xs ys : List Int} (hx : SlOk (lk Γr) A c xs) (hy : SlOk (lk Γr) B d ys) :
    Ret Try.prog 28 [.slice A xs.length c, .slice B ys.length d] Γr [] (fun v Γ => Γ = [] ∧ v = .bool (decide (xs = ys))) := by
  generalize hR : (fun v Γ => Γ = [] ∧ v = _) = R
  refine ret_of_vc tr28 (Nat.le_of_ble_eq_true rfl) ?_
  have h1 := hx.short
  have h2 := hy.short
  simp only [S28, S28_0, go_sem, Nat.reduceBEq, Nat.reduceAdd, Nat.reduceSub, Nat.reduceMul, Nat.reduceLeDiff, reduceCtorEq, ↓reduceIte, Int.reduceLT, Int.reduceLE, Int.reduceEq, Int.reduceNe]
  refine ⟨fun hne => Up.here ?_, fun heq => ?_⟩
  · subst hR
    refine ⟨rfl, ?_⟩
    have : xs ≠ ys := fun e => by subst e; exact hne rfl
    simp [this]
  have hl : xs.length = ys.length := by omega
  refine s_loop (fun f vs Γ => Γ = [] ∧ ∃ k : Nat, vs = [.v true (.int .i64 k)] ∧ k + f = xs.length ∧ xs.take k = ys.take k) xs.length (Up.here ⟨rfl, 0, rfl, by omega, by simp⟩) ?_
  rintro f vs Γ ⟨rfl, k, rfl, hkf, htk⟩
  simp only [S28_1, go_sem, Nat.reduceBEq, Nat.reduceAdd, Nat.reduceSub, Nat.reduceMul, Nat.reduceLeDiff, reduceCtorEq, ↓reduceIte, Int.reduceLT, Int.reduceLE, Int.reduceEq, Int.reduceNe]
  refine ⟨fun hlt => ?_, fun hge => ?_⟩
  · have hk : k < xs.length := by omega
    have hk' : k < ys.length := by omega
    obtain ⟨b, o, hA, hc1⟩ := hx.int hk
    obtain ⟨b', o', hB, hc2⟩ := hy.int hk'
    refine s_idx hA (by omega) (by omega) ?_
    simp only [go_sem, Nat.reduceBEq, Nat.reduceAdd, Nat.reduceSub, Nat.reduceMul, Nat.reduceLeDiff, reduceCtorEq, ↓reduceIte, Int.reduceLT, Int.reduceLE, Int.reduceEq, Int.reduceNe]
    refine s_ld0 (hc1 _ (Mem.le.refl _)) (by simp) (by simp) ?_
    simp only [go_sem, Nat.reduceBEq, Nat.reduceAdd, Nat.reduceSub, Nat.reduceMul, Nat.reduceLeDiff, reduceCtorEq, ↓reduceIte, Int.reduceLT, Int.reduceLE, Int.reduceEq, Int.reduceNe]
    refine s_idx hB (by omega) (by omega) ?_
    simp only [go_sem, Nat.reduceBEq, Nat.reduceAdd, Nat.reduceSub, Nat.reduceMul, Nat.reduceLeDiff, reduceCtorEq, ↓reduceIte, Int.reduceLT, Int.reduceLE, Int.reduceEq, Int.reduceNe]
    refine s_ld0 (hc2 _ (Mem.le.refl _)) (by simp) (by simp) ?_
    simp only [go_sem, Nat.reduceBEq, Nat.reduceAdd, Nat.reduceSub, Nat.reduceMul, Nat.reduceLeDiff, reduceCtorEq, ↓reduceIte, Int.reduceLT, Int.reduceLE, Int.reduceEq, Int.reduceNe]
    refine ⟨fun hne => Up.here ?_, fun heq => ?_⟩
    · subst hR
      refine ⟨rfl, ?_⟩
      have : xs ≠ ys := fun e => by subst e; exact hne rfl
      simp [this]
    · simp (disch := omega) only [wrap_id]
      exact ⟨f - 1, by omega, Up.here ⟨rfl, k + 1, rfl, by omega, take_eq_succ hk hk' htk heq⟩⟩
  · have hk : k = xs.length := by omega
    refine Up.here ?_
    subst hR
    refine ⟨rfl, ?_⟩
    have : xs = ys := by
      rw [hk, List.take_length, hl, List.take_length] at htk
      exact htk
    simp [this]

theorem eraseIdx_eq {α : Type} (xs : List α) (i : Nat) : xs.eraseIdx i = xs.take i ++ xs.drop (i + 1) := List.eraseIdx_eq_take_drop_succ xs i

theorem slices_delete {Γr : Ctx} {g : PH} {A : Option Addr} {c : Nat} {xs : List Int} (hx : Bld g (lk []) 3 (.slice A xs.length c) xs) (hs : xs.length ≤ 1000) (i : Nat) (hi : i < xs.length) :
    Ret Try.prog 29 [.slice A xs.length c, .int .i64 i, .int .i64 ((i : Int) + 1)] Γr [g] (fun v Γ => ∃ g', Γ = [g'] ∧ Bld g' (lk []) 3 v (xs.eraseIdx i)) := by
  generalize hR : (fun (v : Value) (Γ : Ctx) => ∃ g', _) = R
  refine ret_of_vc tr29 (Nat.le_of_ble_eq_true rfl) ?_
  have hcap : xs.length ≤ c := by
    obtain ⟨cs, h, _⟩ := hx
    obtain ⟨A', c', e, hl⟩ := h.len
    simp only [Value.slice.injEq] at e
    omega
  have hel : (xs.eraseIdx i).length = xs.length - 1 := by rw [List.length_eraseIdx, if_pos hi]
  simp only [S29, S29_0, go_sem, Nat.reduceBEq, Nat.reduceAdd, Nat.reduceSub, Nat.reduceMul, Nat.reduceLeDiff, reduceCtorEq, ↓reduceIte, Int.reduceLT, Int.reduceLE, Int.reduceEq, Int.reduceNe]
  refine s_q trivial (qr_slc3 (e := 3) (sz := 1) (l := i) (h := i + 1) (m := xs.length) (by kernel_rfl) (by kernel_rfl) (by omega) (by omega) hcap) ?_
  simp only [go_sem, Nat.reduceBEq, Nat.reduceAdd, Nat.reduceSub, Nat.reduceMul, Nat.reduceLeDiff, reduceCtorEq, ↓reduceIte, Int.reduceLT, Int.reduceLE, Int.reduceEq, Int.reduceNe]
  refine ⟨fun h => by omega, fun _ => ?_⟩
  refine s_hi i (by simp only [go_sem, Nat.reduceBEq, Nat.reduceAdd, Nat.reduceSub, Nat.reduceMul, Nat.reduceLeDiff, reduceCtorEq, ↓reduceIte, Int.reduceLT, Int.reduceLE, Int.reduceEq, Int.reduceNe]; exact ⟨_, rfl⟩) (by omega) ?_
  simp only [go_sem, Nat.reduceBEq, Nat.reduceAdd, Nat.reduceSub, Nat.reduceMul, Nat.reduceLeDiff, reduceCtorEq, ↓reduceIte, Int.reduceLT, Int.reduceLE, Int.reduceEq, Int.reduceNe]
  refine s_lo (i + 1) (by simp only [go_sem, Nat.reduceBEq, Nat.reduceAdd, Nat.reduceSub, Nat.reduceMul, Nat.reduceLeDiff, reduceCtorEq, ↓reduceIte, Int.reduceLT, Int.reduceLE, Int.reduceEq, Int.reduceNe]; exact ⟨_, rfl⟩) (by omega) hcap ?_
  intro A2 hA2
  simp only [go_sem, Nat.reduceBEq, Nat.reduceAdd, Nat.reduceSub, Nat.reduceMul, Nat.reduceLeDiff, reduceCtorEq, ↓reduceIte, Int.reduceLT, Int.reduceLE, Int.reduceEq, Int.reduceNe]
  have hsl : ∃ A' c', (Value.slice A xs.length c) = .slice A' xs.length c' ∧ SlOk (lk [g]) A' c' xs := hx.slok (Mem.le.refl _) (lk_sub (by simp)) (by omega)
  obtain ⟨A', c', e, hsl⟩ := hsl
  simp only [Value.slice.injEq, true_and] at e
  obtain ⟨rfl, rfl⟩ := e
  have hd := hsl.drop (l := i + 1) (by omega)
  rw [show (if c = i + 1 then A else A.map (·.add ((i + 1) * Rep.sz Int))) = A2 from hA2.symm] at hd
  refine s_appS (ix := 0) rfl (hx.take (k := i) (by omega)) hd (by simp) (lk_l _ _) rfl (by simp; omega) (by simp [maxLen]; omega) ?_
  intro v g' hB hkp
  rw [← eraseIdx_eq] at hB
  obtain ⟨A3, c3, rfl⟩ := hB.val
  have hc3 : xs.length ≤ c3 := by
    have := ((hkp.2 _ _ _ _ _ _ rfl rfl).1 (by rw [hel]; omega)).2
    omega
  rw [hel] at hB ⊢
  simp only [go_sem, Nat.reduceBEq, Nat.reduceAdd, Nat.reduceSub, Nat.reduceMul, Nat.reduceLeDiff, reduceCtorEq, ↓reduceIte, Int.reduceLT, Int.reduceLE, Int.reduceEq, Int.reduceNe]
  refine s_lohi (xs.length - 1) xs.length (by simp only [go_sem, Nat.reduceBEq, Nat.reduceAdd, Nat.reduceSub, Nat.reduceMul, Nat.reduceLeDiff, reduceCtorEq, ↓reduceIte, Int.reduceLT, Int.reduceLE, Int.reduceEq, Int.reduceNe]; exact ⟨_, rfl⟩) (by simp only [go_sem, Nat.reduceBEq, Nat.reduceAdd, Nat.reduceSub, Nat.reduceMul, Nat.reduceLeDiff, reduceCtorEq, ↓reduceIte, Int.reduceLT, Int.reduceLE, Int.reduceEq, Int.reduceNe]; exact ⟨_, rfl⟩) (by omega) hc3 ?_
  rintro A4 hA4
  simp only [go_sem, Nat.reduceBEq, Nat.reduceAdd, Nat.reduceSub, Nat.reduceMul, Nat.reduceLeDiff, reduceCtorEq, ↓reduceIte, Int.reduceLT, Int.reduceLE, Int.reduceEq, Int.reduceNe]
  rw [hA4]
  refine s_clear (α := Int) (ix := 0) (z := .int .i64 0) (n := xs.length - 1) (e := 3) (by kernel_rfl) (by kernel_rfl) rfl (by simp [Value.cells, one', Value.oneCell']) rfl hB (by omega) rfl ?_
  intro g2 hB2
  simp only [go_sem, Nat.reduceBEq, Nat.reduceAdd, Nat.reduceSub, Nat.reduceMul, Nat.reduceLeDiff, reduceCtorEq, ↓reduceIte, Int.reduceLT, Int.reduceLE, Int.reduceEq, Int.reduceNe]
  refine Up.here ?_
  subst hR
  exact ⟨g2, rfl, hB2⟩

/-! the order that coins draw -/
def ordF (coins : List Bool) : Nat → List Int → List Int → Nat → Option (List Int × Nat)
  | 0, _, out, used => some (out, used)
  | f + 1, left, out, used => match coinsF left.length (coins.drop used) with
    | none => none
    | some (i, u) => ordF coins f (left.eraseIdx i) (out ++ [left.getD i 0]) (used + u)
def orderR (n : Int) (coins : List Bool) : List Int × Int × Int :=
  if n < 0 ∨ 100 < n then ([], 0, 1) else match ordF coins n.toNat (numsI n.toNat) [] 0 with
    | none => ([], 0, 5)
    | some (o, k) => (o, k, 0)
theorem coinsG_lt' {n b : Nat} {coins : List Bool} : ∀ {f u : Nat} {x v : Nat}, coinsG n b coins f u = some (x, v) → x < n ∧ v ≤ coins.length
  | 0, u, x, v, h => by simp [coinsG] at h
  | f + 1, u, x, v, h => by
    simp only [coinsG] at h
    split at h
    · split at h
      · simp at h; omega
      · exact coinsG_lt' h
    · cases h
theorem coinsF_lt' {n : Nat} {coins : List Bool} {x v : Nat} (h : coinsF n coins = some (x, v)) : x < n ∧ v ≤ coins.length := coinsG_lt' h

theorem draw_order {Γr : Ctx} (n : Int) {A : Option Addr} {c : Nat} {coins : List Bool} (hc : SlOk (lk Γr) A c coins) :
    Ret Try.prog 27 [.int .i64 n, .slice A coins.length c] Γr [] (fun v Γ => ∃ g B cb, Γ = [g] ∧ SlOk (lk [g]) B cb (orderR n coins).1 ∧
      v = .tuple #[.slice B (orderR n coins).1.length cb, .int .i64 (orderR n coins).2.1, .int .i64 (orderR n coins).2.2]) := by
  generalize hR : (fun (v : Value) (Γ : Ctx) => ∃ g B cb, _) = R
  refine ret_of_vc tr27 (Nat.le_of_ble_eq_true rfl) ?_
  have hcl := hc.short
  simp only [S27, S27_0, go_sem, Nat.reduceBEq, Nat.reduceAdd, Nat.reduceSub, Nat.reduceMul, Nat.reduceLeDiff, reduceCtorEq, ↓reduceIte, Int.reduceLT, Int.reduceLE, Int.reduceEq, Int.reduceNe]
  refine ⟨fun h => Up.one fun g _ => ?_, fun hn => ?_⟩
  · subst hR
    have : orderR n coins = ([], 0, 1) := by unfold orderR; rw [if_pos h]
    rw [this]
    exact ⟨g, none, 0, rfl, SlOk.nil, rfl⟩
  obtain ⟨m, rfl⟩ : ∃ m : Nat, n = m := ⟨n.toNat, by omega⟩
  have hm : m ≤ 100 := by omega
  have hres : orderR m coins = match ordF coins m (numsI m) [] 0 with
    | none => ([], 0, 5)
    | some (o, k) => (o, k, 0) := by
    unfold orderR
    rw [if_neg (by omega), Int.toNat_natCast]
  -- the numbers
  refine s_loop (fun f vs Γ => ∃ g g2 : PH, Γ = [g, g2] ∧ ∃ (k : Nat) (u : Value), vs = [.v true u, .v true (.int .i64 k)] ∧ k + f = m ∧ Bld g (lk []) 3 u (numsI k)) m
    (Up.sel [[], []] (by decide) fun _ _ => ⟨_, _, rfl, 0, _, rfl, by omega, Bld.nil _ _ _⟩) ?_
  rintro f vs Γ ⟨g, g2, rfl, k, u, rfl, hkf, hB⟩
  have hkl := numsI_len k
  simp only [S27_1, go_sem, Nat.reduceBEq, Nat.reduceAdd, Nat.reduceSub, Nat.reduceMul, Nat.reduceLeDiff, reduceCtorEq, ↓reduceIte, Int.reduceLT, Int.reduceLE, Int.reduceEq, Int.reduceNe]
  refine ⟨fun hlt => ?_, fun hge => ?_⟩
  · intro b
    refine s_app1S (ix := 1) (k : Int) rfl hB cells_one rfl (by omega) (by simp [maxLen]; omega) ?_
    intro v' g' hB' _
    simp only [go_sem, Nat.reduceBEq, Nat.reduceAdd, Nat.reduceSub, Nat.reduceMul, Nat.reduceLeDiff, reduceCtorEq, ↓reduceIte, Int.reduceLT, Int.reduceLE, Int.reduceEq, Int.reduceNe]
    simp (disch := omega) only [wrap_id]
    rw [← numsI_succ] at hB'
    exact ⟨f - 1, by omega, Up.sel [[1], [2]] (by decide) fun _ _ => ⟨_, _, rfl, k + 1, v', rfl, by omega, hB'⟩⟩
  · have hk : k = m := by omega
    subst hk
    refine s_loop (fun f vs Γ => ∃ g g2 : PH, Γ = [g, g2] ∧ ∃ (left out : List Int) (used : Nat) (u1 u2 : Value), vs = [.v true u1, .v true u2, .v true (.int .i64 used)] ∧ f = left.length ∧ Bld g (lk []) 3 u1 left ∧ Bld g2 (lk []) 3 u2 out ∧
      left.length + out.length = k ∧ used ≤ coins.length ∧ ordF coins left.length left out used = ordF coins k (numsI k) [] 0) k
      (Up.here ⟨g, g2, rfl, numsI k, [], 0, _, _, rfl, hkl.symm, hB, Bld.nil _ _ _, by simp [hkl], by omega, by rw [hkl]⟩) ?_
    rintro f vs Γ ⟨g, g2, rfl, left, out, used, u1, u2, rfl, hf, hB1, hB2, hlen, hused, hord⟩
    obtain ⟨A1, c1, rfl⟩ := hB1.val
    simp only [S27_2, go_sem, Nat.reduceBEq, Nat.reduceAdd, Nat.reduceSub, Nat.reduceMul, Nat.reduceLeDiff, reduceCtorEq, ↓reduceIte, Int.reduceLT, Int.reduceLE, Int.reduceEq, Int.reduceNe]
    refine ⟨fun hlt => ?_, fun hge => ?_⟩
    · refine s_lo used (by simp only [go_sem, Nat.reduceBEq, Nat.reduceAdd, Nat.reduceSub, Nat.reduceMul, Nat.reduceLeDiff, reduceCtorEq, ↓reduceIte, Int.reduceLT, Int.reduceLE, Int.reduceEq, Int.reduceNe]; exact ⟨_, rfl⟩) hused hc.cap ?_
      intro A2 hA2
      simp only [go_sem, Nat.reduceBEq, Nat.reduceAdd, Nat.reduceSub, Nat.reduceMul, Nat.reduceLeDiff, reduceCtorEq, ↓reduceIte, Int.reduceLT, Int.reduceLE, Int.reduceEq, Int.reduceNe]
      have hd := (hc.drop (l := used) hused).r (Γ := [g, g2])
      rw [show (if c = used then A else A.map (·.add (used * Rep.sz Bool))) = A2 from hA2.symm] at hd
      have hdl : (coins.drop used).length = coins.length - used := by simp
      rw [← hdl]
      refine CallVC.read (draw_number _ _ _ _ hd) ?_
      rintro v Γ' ⟨rfl, rfl⟩
      rw [if_neg (by omega), Int.toNat_natCast]
      obtain ⟨l, hl⟩ : ∃ l, left.length = l + 1 := ⟨left.length - 1, by omega⟩
      rw [hl] at hord
      simp only [ordF, hl] at hord
      rw [hl]
      cases hcf : coinsF (l + 1) (coins.drop used) with
      | none =>
        rw [hcf] at hord
        simp only at hord
        rw [← hord] at hres
        simp only [go_sem, Nat.reduceBEq, Nat.reduceAdd, Nat.reduceSub, Nat.reduceMul, Nat.reduceLeDiff, reduceCtorEq, ↓reduceIte, Int.reduceLT, Int.reduceLE, Int.reduceEq, Int.reduceNe]
        refine Up.one fun g3 _ => ?_
        subst hR
        rw [hres]
        exact ⟨g3, none, 0, rfl, SlOk.nil, rfl⟩
      | some p =>
        obtain ⟨i, w⟩ := p
        rw [hcf] at hord
        simp only at hord
        obtain ⟨hi, hw⟩ := coinsF_lt' hcf
        simp only [List.length_drop] at hw
        simp only [go_sem, Nat.reduceBEq, Nat.reduceAdd, Nat.reduceSub, Nat.reduceMul, Nat.reduceLeDiff, reduceCtorEq, ↓reduceIte, Int.reduceLT, Int.reduceLE, Int.reduceEq, Int.reduceNe]
        have hcap : left.length ≤ c1 := by
          obtain ⟨cs, h, _⟩ := hB1
          obtain ⟨A', c', e, hl⟩ := h.len
          simp only [Value.slice.injEq] at e
          omega
        have hsl : ∃ A' c', (Value.slice A1 left.length c1) = .slice A' left.length c' ∧ SlOk (lk [g]) A' c' left := hB1.slok (Mem.le.refl _) (lk_sub (by simp)) (by omega)
        obtain ⟨A', c', e, hsl⟩ := hsl
        simp only [Value.slice.injEq, true_and] at e
        obtain ⟨rfl, rfl⟩ := e
        have hil : i < left.length := by omega
        obtain ⟨b, o, hA1, hcells⟩ := hsl.int hil
        refine s_idx hA1 (by omega) (by omega) ?_
        simp only [go_sem, Nat.reduceBEq, Nat.reduceAdd, Nat.reduceSub, Nat.reduceMul, Nat.reduceLeDiff, reduceCtorEq, ↓reduceIte, Int.reduceLT, Int.reduceLE, Int.reduceEq, Int.reduceNe]
        refine s_ld0 (hcells _ (lk_sub (by simp))) (by simp) (by simp) ?_
        simp only [go_sem, Nat.reduceBEq, Nat.reduceAdd, Nat.reduceSub, Nat.reduceMul, Nat.reduceLeDiff, reduceCtorEq, ↓reduceIte, Int.reduceLT, Int.reduceLE, Int.reduceEq, Int.reduceNe]
        intro b'
        refine s_app1S (ix := 2) left[i] rfl hB2 cells_one rfl (by omega) (by simp [maxLen]; omega) ?_
        intro v2 g2' hB2' _
        simp only [go_sem, Nat.reduceBEq, Nat.reduceAdd, Nat.reduceSub, Nat.reduceMul, Nat.reduceLeDiff, reduceCtorEq, ↓reduceIte, Int.reduceLT, Int.reduceLE, Int.reduceEq, Int.reduceNe]
        refine s_hi i (by simp only [go_sem, Nat.reduceBEq, Nat.reduceAdd, Nat.reduceSub, Nat.reduceMul, Nat.reduceLeDiff, reduceCtorEq, ↓reduceIte, Int.reduceLT, Int.reduceLE, Int.reduceEq, Int.reduceNe]; exact ⟨_, rfl⟩) (by omega) ?_
        simp only [go_sem, Nat.reduceBEq, Nat.reduceAdd, Nat.reduceSub, Nat.reduceMul, Nat.reduceLeDiff, reduceCtorEq, ↓reduceIte, Int.reduceLT, Int.reduceLE, Int.reduceEq, Int.reduceNe]
        simp (disch := omega) only [wrap_id]
        refine s_lo (i + 1) (by simp only [go_sem, Nat.reduceBEq, Nat.reduceAdd, Nat.reduceSub, Nat.reduceMul, Nat.reduceLeDiff, reduceCtorEq, ↓reduceIte, Int.reduceLT, Int.reduceLE, Int.reduceEq, Int.reduceNe]; exact ⟨_, rfl⟩) (by omega) (by omega) ?_
        intro A3 hA3
        simp only [go_sem, Nat.reduceBEq, Nat.reduceAdd, Nat.reduceSub, Nat.reduceMul, Nat.reduceLeDiff, reduceCtorEq, ↓reduceIte, Int.reduceLT, Int.reduceLE, Int.reduceEq, Int.reduceNe]
        have hd := hsl.drop (l := i + 1) (by omega)
        rw [show (if c1 = i + 1 then A1 else A1.map (·.add ((i + 1) * Rep.sz Int))) = A3 from hA3.symm] at hd
        have hel : (left.eraseIdx i).length = l := by rw [List.length_eraseIdx, if_pos hil]; omega
        refine s_appS (ix := 1) rfl (hB1.take (k := i) (by omega)) hd (by simp [hl]) (lk_sub (by simp)) rfl (by simp; omega) (by simp [maxLen]; omega) ?_
        intro v g' hB' hkp
        rw [← eraseIdx_eq] at hB'
        simp only [go_sem, Nat.reduceBEq, Nat.reduceAdd, Nat.reduceSub, Nat.reduceMul, Nat.reduceLeDiff, reduceCtorEq, ↓reduceIte, Int.reduceLT, Int.reduceLE, Int.reduceEq, Int.reduceNe]
        have hg : left.getD i 0 = left[i] := by rw [List.getD_eq_getElem?_getD, List.getElem?_eq_getElem hil]; rfl
        rw [hg] at hord
        exact ⟨l, by omega, Up.sel [[1], [2]] (by decide) fun _ _ => ⟨_, _, rfl, left.eraseIdx i, out ++ [left[i]], used + w, _, _, rfl, hel.symm, hB', hB2', by simp [hel]; omega, by omega, by rw [hel]; exact hord⟩⟩
    · have hl0 : left = [] := List.eq_nil_of_length_eq_zero (by omega)
      subst hl0
      simp only [List.length_nil, ordF] at hord
      rw [← hord] at hres
      have hol : out.length ≤ 100 := by simp at hlen; omega
      refine Up.one fun g3 hg3 => ?_
      obtain ⟨B, cb, rfl, hs⟩ := hB2.slok (L' := lk [g3]) ((lk_m (by simp)).trans hg3) (fun _ _ h => by obtain ⟨_, h, _⟩ := h; cases h) (by omega)
      subst hR
      rw [hres]
      exact ⟨g3, B, cb, rfl, hs, rfl⟩
end Go.Proofs.Ytniobbepliknmaa.V
/- The text of slices.Clone[[]parlance/api.Sym,parlance/api.Sym] as a statement (slots: 0 s, 1 s); no condition. -/
namespace Go.Proofs.Ytniobbepliknmaa.V
open Go
def S129_0 : Stmt :=
  Stmt.seq (Stmt.region [SOper.mk (some 2) none (SOp.mv (Operand.const (Value.slice none 0 0)))] [0])
  (Stmt.seq
    (Stmt.seq
      (Stmt.region
        [SOper.mk (some 3) none (SOp.mv (Operand.tmp 0)),
          SOper.mk (some 4) none (SOp.nilq 0 false (Operand.tmp 3) (Operand.const (Value.slice none 0 0)))]
        [0, 4])
      (Stmt.cond (Operand.tmp 4)
        (Stmt.seq (Stmt.region [SOper.mk (some 2) none (SOp.mv (Operand.const (Value.slice none 0 0)))] [2]) Stmt.ret)
        Stmt.skip))
    (Stmt.seq
      (Stmt.region
        [SOper.mk (some 5) none (SOp.buildS 39 0 [] []), SOper.mk (some 6) none (SOp.mv (Operand.tmp 0)),
          SOper.mk (some 7) none
            (SOp.append 35 39 2 16 (Value.agg (Array.mk [Value.bool false, Value.int IntKind.i64 0])) (Operand.tmp 5)
              (Operand.tmp 6)),
          SOper.mk (some 2) none (SOp.mv (Operand.tmp 7))]
        [2])
      Stmt.ret))
def S129 : FnS := ⟨8, [(2, none)], S129_0⟩
theorem tr129 : trFn Try.prog 129 [] [[0], [0, 4], [2], [2]] = some S129 := by kernel_rfl
end Go.Proofs.Ytniobbepliknmaa.V
/- The text of slices.Clone[[]parlance/api.Rule,parlance/api.Rule] as a statement (slots: 0 s, 1 s); no condition. -/
namespace Go.Proofs.Ytniobbepliknmaa.V
open Go
def S136_0 : Stmt :=
  Stmt.seq (Stmt.region [SOper.mk (some 2) none (SOp.mv (Operand.const (Value.slice none 0 0)))] [0])
  (Stmt.seq
    (Stmt.seq
      (Stmt.region
        [SOper.mk (some 3) none (SOp.mv (Operand.tmp 0)),
          SOper.mk (some 4) none (SOp.nilq 0 false (Operand.tmp 3) (Operand.const (Value.slice none 0 0)))]
        [0, 4])
      (Stmt.cond (Operand.tmp 4)
        (Stmt.seq (Stmt.region [SOper.mk (some 2) none (SOp.mv (Operand.const (Value.slice none 0 0)))] [2]) Stmt.ret)
        Stmt.skip))
    (Stmt.seq
      (Stmt.region
        [SOper.mk (some 5) none (SOp.buildS 37 0 [] []), SOper.mk (some 6) none (SOp.mv (Operand.tmp 0)),
          SOper.mk (some 7) none
            (SOp.append 32 37 2 32 (Value.agg (Array.mk [Value.int IntKind.i64 0, Value.slice none 0 0]))
              (Operand.tmp 5) (Operand.tmp 6)),
          SOper.mk (some 2) none (SOp.mv (Operand.tmp 7))]
        [2])
      Stmt.ret))
def S136 : FnS := ⟨8, [(2, none)], S136_0⟩
theorem tr136 : trFn Try.prog 136 [] [[0], [0, 4], [2], [2]] = some S136 := by kernel_rfl
end Go.Proofs.Ytniobbepliknmaa.V
/- The text of slices.Concat[[][]int,[]int] as a statement (slots: 0 slices, 1 slices, 3 size, 4 _, 5 s, 6 newslice, 7 _, 8 s); no condition. -/
namespace Go.Proofs.Ytniobbepliknmaa.V
open Go
def S58_1 : Stmt :=
  Stmt.block 1
  (Stmt.seq
    (Stmt.region
      [SOper.mk (some 13) none (SOp.idx 1 (Operand.tmp 9) (Operand.tmp 11)),
        SOper.mk (some 14) none (SOp.load false 1 (Operand.tmp 13)), SOper.mk (some 5) none (SOp.mv (Operand.tmp 14))]
      [0, 3, 5, 9, 10, 11])
    (Stmt.seq
      (Stmt.region
        [SOper.mk (some 15) none (SOp.mv (Operand.tmp 3)), SOper.mk (some 16) none (SOp.mv (Operand.tmp 5)),
          SOper.mk (some 17) none (SOp.len false (Operand.tmp 16)),
          SOper.mk (some 18) none (SOp.ibin BinOp.add (Operand.tmp 15) (Operand.tmp 17)),
          SOper.mk (some 3) none (SOp.mv (Operand.tmp 18))]
        [0, 3, 9, 10, 11])
      (Stmt.seq
        (Stmt.region
          [SOper.mk (some 19) none (SOp.mv (Operand.tmp 3)),
            SOper.mk (some 20) none (SOp.ibin BinOp.lss (Operand.tmp 19) (Operand.const (Value.int IntKind.i64 0)))]
          [0, 3, 9, 10, 11, 20])
        (Stmt.cond (Operand.tmp 20)
          (Stmt.region [SOper.mk (some 21) none SOp.dead, SOper.mk none none SOp.dead] [0, 3, 9, 10, 11]) Stmt.skip))))
def S58_2 : Stmt :=
  Stmt.region
  [SOper.mk (some 22) none (SOp.ibin BinOp.add (Operand.tmp 11) (Operand.const (Value.int IntKind.i64 1))),
    SOper.mk (some 11) none (SOp.mv (Operand.tmp 22))]
  [0, 3, 9, 10, 11]
def S58_3 : Stmt :=
  Stmt.seq
  (Stmt.region [SOper.mk (some 12) none (SOp.ibin BinOp.lss (Operand.tmp 11) (Operand.tmp 10))] [0, 3, 9, 10, 11, 12])
  (Stmt.seq (Stmt.cond (Operand.tmp 12) Stmt.skip (Stmt.exit 0)) (Stmt.join S58_1 S58_2 [3] [0, 9, 10, 11]))
def S58_4 : Stmt :=
  Stmt.seq
  (Stmt.region [SOper.mk (some 28) none (SOp.ibin BinOp.lss (Operand.tmp 27) (Operand.tmp 26))] [6, 25, 26, 27, 28])
  (Stmt.seq (Stmt.cond (Operand.tmp 28) Stmt.skip (Stmt.exit 2))
    (Stmt.seq
      (Stmt.block 3
        (Stmt.seq
          (Stmt.region
            [SOper.mk (some 29) none (SOp.idx 1 (Operand.tmp 25) (Operand.tmp 27)),
              SOper.mk (some 30) none (SOp.load false 1 (Operand.tmp 29)),
              SOper.mk (some 8) none (SOp.mv (Operand.tmp 30))]
            [6, 8, 25, 26, 27])
          (Stmt.region
            [SOper.mk (some 31) none (SOp.mv (Operand.tmp 6)), SOper.mk (some 32) none (SOp.mv (Operand.tmp 8)),
              SOper.mk (some 33) none (SOp.append 65 29 1 24 (Value.slice none 0 0) (Operand.tmp 31) (Operand.tmp 32)),
              SOper.mk (some 6) none (SOp.mv (Operand.tmp 33))]
            [6, 25, 26, 27])))
      (Stmt.region
        [SOper.mk (some 34) none (SOp.ibin BinOp.add (Operand.tmp 27) (Operand.const (Value.int IntKind.i64 1))),
          SOper.mk (some 27) none (SOp.mv (Operand.tmp 34))]
        [6, 25, 26, 27])))
def S58_0 : Stmt :=
  Stmt.seq (Stmt.region [SOper.mk (some 2) none (SOp.mv (Operand.const (Value.slice none 0 0)))] [0])
  (Stmt.seq (Stmt.region [SOper.mk (some 3) none (SOp.mv (Operand.const (Value.int IntKind.i64 0)))] [0, 3])
    (Stmt.seq
      (Stmt.seq
        (Stmt.region
          [SOper.mk (some 9) none (SOp.mv (Operand.tmp 0)), SOper.mk (some 10) none (SOp.len false (Operand.tmp 9)),
            SOper.mk (some 11) none (SOp.mv (Operand.const (Value.int IntKind.i64 0)))]
          [0, 3, 9, 10, 11])
        (Stmt.block 0 (Stmt.loop S58_3 [3, 11] [0, 9, 10])))
      (Stmt.seq
        (Stmt.region
          [SOper.mk (some 23) none (SOp.mv (Operand.tmp 3)),
            SOper.mk (some 24) none
              (SOp.call (Operand.func 131) [Operand.const (Value.slice none 0 0), Operand.tmp 23]),
            SOper.mk (some 6) none (SOp.mv (Operand.tmp 24))]
          [0, 6])
        (Stmt.seq
          (Stmt.seq
            (Stmt.region
              [SOper.mk (some 25) none (SOp.mv (Operand.tmp 0)),
                SOper.mk (some 26) none (SOp.len false (Operand.tmp 25)),
                SOper.mk (some 27) none (SOp.mv (Operand.const (Value.int IntKind.i64 0)))]
              [6, 25, 26, 27])
            (Stmt.block 2 (Stmt.loop S58_4 [6, 27] [25, 26])))
          (Stmt.seq
            (Stmt.region
              [SOper.mk (some 35) none (SOp.mv (Operand.tmp 6)), SOper.mk (some 2) none (SOp.mv (Operand.tmp 35))] [2])
            Stmt.ret)))))
def S58 : FnS := ⟨36, [(2, none)], S58_0⟩
theorem tr58 : trFn Try.prog 58 [] [[0], [0, 3], [0, 3, 9, 10, 11], [3, 11], [0, 9, 10], [0, 3, 9, 10, 11, 12], [3], [0, 9, 10, 11], [0, 3, 5, 9, 10, 11], [0, 3, 9, 10, 11], [0, 3, 9, 10, 11, 20], [0, 3, 9, 10, 11], [0, 3, 9, 10, 11], [0, 6], [6, 25, 26, 27], [6, 27], [25, 26], [6, 25, 26, 27, 28], [6, 8, 25, 26, 27], [6, 25, 26, 27], [6, 25, 26, 27], [2]] = some S58 := by kernel_rfl
end Go.Proofs.Ytniobbepliknmaa.V
/- The text of slices.Grow[[][]int,[]int] as a statement (slots: 0 s, 1 n, 2 s, 3 n); no condition. -/
namespace Go.Proofs.Ytniobbepliknmaa.V
open Go
def S131_1 : Stmt :=
  Stmt.seq
  (Stmt.region
    [SOper.mk (some 5) none (SOp.mv (Operand.tmp 1)),
      SOper.mk (some 6) none (SOp.ibin BinOp.lss (Operand.tmp 5) (Operand.const (Value.int IntKind.i64 0)))]
    [0, 1, 6])
  (Stmt.cond (Operand.tmp 6) (Stmt.region [SOper.mk (some 7) none SOp.dead, SOper.mk none none SOp.dead] [0, 1])
    Stmt.skip)
def S131_2 : Stmt :=
  Stmt.seq
  (Stmt.region
    [SOper.mk (some 8) none (SOp.mv (Operand.tmp 1)), SOper.mk (some 9) none (SOp.mv (Operand.tmp 0)),
      SOper.mk (some 10) none (SOp.q (Qk.bi 0 [65]) [Operand.tmp 9]), SOper.mk (some 11) none (SOp.mv (Operand.tmp 0)),
      SOper.mk (some 12) none (SOp.len false (Operand.tmp 11)),
      SOper.mk (some 13) none (SOp.ibin BinOp.sub (Operand.tmp 10) (Operand.tmp 12)),
      SOper.mk (some 14) none (SOp.ibin BinOp.sub (Operand.tmp 8) (Operand.tmp 13)),
      SOper.mk (some 1) none (SOp.mv (Operand.tmp 14))]
    [0, 1])
  (Stmt.seq
    (Stmt.region
      [SOper.mk (some 15) none (SOp.mv (Operand.tmp 1)),
        SOper.mk (some 16) none (SOp.ibin BinOp.gtr (Operand.tmp 15) (Operand.const (Value.int IntKind.i64 0)))]
      [0, 1, 16])
    (Stmt.cond (Operand.tmp 16)
      (Stmt.region
        [SOper.mk (some 17) none (SOp.mv (Operand.tmp 0)), SOper.mk (some 18) none (SOp.mv (Operand.tmp 0)),
          SOper.mk (some 19) none (SOp.q (Qk.bi 0 [65]) [Operand.tmp 18]),
          SOper.mk (some 20) none (SOp.slc 1 (Operand.tmp 17) none (some (Operand.tmp 19)) none),
          SOper.mk (some 21) none (SOp.mv (Operand.tmp 1)),
          SOper.mk (some 22) none (SOp.appz 65 3 29 1 24 (Value.slice none 0 0) (Operand.tmp 20) (Operand.tmp 21)),
          SOper.mk (some 23) none (SOp.mv (Operand.tmp 0)), SOper.mk (some 24) none (SOp.len false (Operand.tmp 23)),
          SOper.mk (some 25) none (SOp.slc 1 (Operand.tmp 22) none (some (Operand.tmp 24)) none),
          SOper.mk (some 0) none (SOp.mv (Operand.tmp 25))]
        [0])
      Stmt.skip))
def S131_3 : Stmt :=
  Stmt.seq
  (Stmt.region [SOper.mk (some 26) none (SOp.mv (Operand.tmp 0)), SOper.mk (some 4) none (SOp.mv (Operand.tmp 26))] [4])
  Stmt.ret
def S131_4 : Stmt :=
  Stmt.join S131_2 S131_3 [0] []
def S131_0 : Stmt :=
  Stmt.seq (Stmt.region [SOper.mk (some 4) none (SOp.mv (Operand.const (Value.slice none 0 0)))] [0, 1])
  (Stmt.join S131_1 S131_4 [] [0, 1])
def S131 : FnS := ⟨27, [(4, none)], S131_0⟩
theorem tr131 : trFn Try.prog 131 [] [[0, 1], [], [0, 1], [0, 1, 6], [0, 1], [0], [], [0, 1], [0, 1, 16], [0], [4]] = some S131 := by kernel_rfl
end Go.Proofs.Ytniobbepliknmaa.V
/- The text of slices.ContainsFunc[[][]int,[]int] as a statement (slots: 0 s, 1 f, 2 s, 3 f); no condition. -/
namespace Go.Proofs.Ytniobbepliknmaa.V
open Go
def S59_0 : Stmt :=
  Stmt.seq (Stmt.region [SOper.mk (some 4) none (SOp.mv (Operand.const (Value.bool false)))] [0, 1])
  (Stmt.seq
    (Stmt.region
      [SOper.mk (some 5) none (SOp.mv (Operand.tmp 0)), SOper.mk (some 6) none (SOp.mv (Operand.tmp 1)),
        SOper.mk (some 7) none (SOp.call (Operand.func 132) [Operand.tmp 5, Operand.tmp 6]),
        SOper.mk (some 8) none (SOp.ibin BinOp.geq (Operand.tmp 7) (Operand.const (Value.int IntKind.i64 0))),
        SOper.mk (some 4) none (SOp.mv (Operand.tmp 8))]
      [4])
    Stmt.ret)
def S59 : FnS := ⟨9, [(4, none)], S59_0⟩
theorem tr59 : trFn Try.prog 59 [] [[0, 1], [4]] = some S59 := by kernel_rfl
end Go.Proofs.Ytniobbepliknmaa.V
/- The text of slices.IndexFunc[[][]int,[]int] as a statement (slots: 0 s, 1 f, 2 s, 3 f, 5 i); no condition. -/
namespace Go.Proofs.Ytniobbepliknmaa.V
open Go
def S132_1 : Stmt :=
  Stmt.seq (Stmt.region [SOper.mk (some 9) none (SOp.ibin BinOp.lss (Operand.tmp 8) (Operand.tmp 7))] [0, 1, 7, 8, 9])
  (Stmt.seq (Stmt.cond (Operand.tmp 9) Stmt.skip (Stmt.exit 0))
    (Stmt.seq
      (Stmt.block 1
        (Stmt.seq
          (Stmt.region
            [SOper.mk (some 10) none (SOp.mv (Operand.tmp 8)), SOper.mk (some 5) none (SOp.mv (Operand.tmp 10))]
            [0, 1, 5, 7, 8])
          (Stmt.seq
            (Stmt.region
              [SOper.mk (some 11) none (SOp.mv (Operand.tmp 1)), SOper.mk (some 12) none (SOp.mv (Operand.tmp 0)),
                SOper.mk (some 13) none (SOp.mv (Operand.tmp 5)),
                SOper.mk (some 14) none (SOp.idx 1 (Operand.tmp 12) (Operand.tmp 13)),
                SOper.mk (some 15) none (SOp.load false 1 (Operand.tmp 14)),
                SOper.mk (some 16) none (SOp.call (Operand.tmp 11) [Operand.tmp 15])]
              [0, 1, 5, 7, 8, 16])
            (Stmt.cond (Operand.tmp 16)
              (Stmt.seq
                (Stmt.region
                  [SOper.mk (some 17) none (SOp.mv (Operand.tmp 5)), SOper.mk (some 4) none (SOp.mv (Operand.tmp 17))]
                  [4])
                Stmt.ret)
              Stmt.skip))))
      (Stmt.region
        [SOper.mk (some 18) none (SOp.ibin BinOp.add (Operand.tmp 8) (Operand.const (Value.int IntKind.i64 1))),
          SOper.mk (some 8) none (SOp.mv (Operand.tmp 18))]
        [0, 1, 7, 8])))
def S132_0 : Stmt :=
  Stmt.seq (Stmt.region [SOper.mk (some 4) none (SOp.mv (Operand.const (Value.int IntKind.i64 0)))] [0, 1])
  (Stmt.seq
    (Stmt.seq
      (Stmt.region
        [SOper.mk (some 6) none (SOp.mv (Operand.tmp 0)), SOper.mk (some 7) none (SOp.len false (Operand.tmp 6)),
          SOper.mk (some 8) none (SOp.mv (Operand.const (Value.int IntKind.i64 0)))]
        [0, 1, 7, 8])
      (Stmt.block 0 (Stmt.loop S132_1 [8] [0, 1, 7])))
    (Stmt.seq (Stmt.region [SOper.mk (some 4) none (SOp.mv (Operand.const (Value.int IntKind.i64 (-1))))] [4])
      Stmt.ret))
def S132 : FnS := ⟨19, [(4, none)], S132_0⟩
theorem tr132 : trFn Try.prog 132 [] [[0, 1], [0, 1, 7, 8], [8], [0, 1, 7], [0, 1, 7, 8, 9], [0, 1, 5, 7, 8], [0, 1, 5, 7, 8, 16], [4], [0, 1, 7, 8], [4]] = some S132 := by kernel_rfl
end Go.Proofs.Ytniobbepliknmaa.V
/- Library functions on symbols, rules and words; no condition. -/
namespace Go.Proofs.Ytniobbepliknmaa.V
open Go
set_option linter.unusedVariables false
set_option linter.unusedSimpArgs false
attribute [local go_sem] e_seq e_region e_quiet e_join e_loop e_cond e_block e_exit e_ret e_skip e_fin e_kseq e_snrm e_sret e_sex e_bnrm e_bret e_bex e_rnrm e_rret e_res e_condC e_nil e_g e_mv g_mv e_pick g_pick pickC_eq e_ibin g_ibin ibinC_eq e_sbin g_sbin e_beq g_beq beqC_eq e_nilq g_nilq nilqC_sl nilqC_pt nilqC_mp e_un g_un unC_not unC_neg e_conv g_conv convC_eq e_fld g_fld fldC_ref fldC_ptr e_nilCheck g_nilCheck nilCheckC_ref nilCheckC_ptr nilCheckC_fun e_field g_field fieldC_eq e_len g_len lenC_sl lenC_str e_extract g_extract extractC_eq e_mkFunc e_build g_build e_idiv g_idiv idivC_eq e_ishift g_ishift ishiftC_eq e_idx g_idx e_idxA g_idxA e_load g_load loadC_ref loadC_ptr loadB_eq e_slc g_slc e_box boxC_loc boxC_esc e_alloc allocC_loc allocC_esc e_buildS e_store storeC_ref storeC_ptr storeB_eq e_append e_appz e_mk mkC_eq e_call callC_eq e_fn g_fn fnC_eq fnV_min' fnV_max' fnV_rune' e_q g_q e_a e_n g_call g_box g_alloc g_buildS g_store g_append g_mk g_a g_n g_dead e_dead e_callK e_drawn e_tree e_finJ e_tk e_tfin e_tno e_nbt_q e_nbt_qn e_nbt_a e_nbt_an e_nbt_fin e_early_nil e_early_t e_early_f e_nob_nil e_nob_none e_nob_some isBox_dead isBox_v isBox_ref e_dnil e_dk e_ek e_finB vcOps_vc1 e_dcons e_tq e_ekt e_tearly e_talt e_dearly look_nil look_c proj_nil proj_c looks_nil looks_c zip_nil zip_c val_tmp val_const val_func slv_v slv_box slv_ref slot_tmp slot_const slot_func slotL_v slotL_box slotL_ref put_some put_none updBox_c boxSet_box gd_eq slotVals_nil slotVals_c slotVals_b boxV_box boxOn_box slotsOn_nil slotsOn_c slotsOn_b resV_one resV_two vals_nil vals_c allOn_nil allOn_c partOn_nil partOn_c partVals_nil partVals_c fits_nil fits_c fillL_nil fillL_c mkv_one mkv_agg cellsV_agg cellsV_int cellsV_bool cellsV_slice cellsV_string cellsV_pointer cellsV_func cellsV_nilf cellsV_map one'_nil one'_c oc_int oc_bool oc_slice oc_string oc_pointer oc_func oc_nilf oc_map setC_eq iv_add iv_sub iv_mul iv_eql iv_neq iv_lss iv_leq iv_gtr iv_geq iok_add iok_sub iok_mul iok_eql iok_neq iok_lss iok_leq iok_gtr iok_geq pickV_bool args0_nil args0_c bnd_none bnd_some imp_bt imp_bf imp_ebt imp_ebf imp_eb1 imp_np imp_pp beq_tt beq_tf beq_ft beq_ff cond_or cond_and e_round e_meet Int.le_refl Int.toNat_zero decide_true decide_false Bool.or_false Bool.false_or Bool.true_or Bool.or_true Bool.and_false Bool.false_and Bool.bne_false Bool.bne_true beq_iff_eq Int.cast_ofNat_Int not_false_eq_true not_true_eq_false false_and and_false false_implies true_implies true_and and_true Bool.true_and Bool.and_true Bool.not_true Bool.not_false forall_const implies_true List.take_zero List.drop_zero List.take_succ_cons List.drop_succ_cons List.take_nil List.drop_nil List.length_cons List.length_nil List.nil_append List.append_nil List.cons_append Int.toNat_natCast decide_eq_true_eq decide_eq_false_iff_not cond_true cond_false and_self List.getElem?_cons_zero List.getElem?_cons_succ List.set_cons_zero List.set_cons_succ Option.some.injEq exists_eq_left' Nat.zero_add Nat.add_zero Nat.mul_one imp_self true_or or_true or_false false_or Bool.or_eq_true Bool.or_eq_false_iff Bool.and_eq_true Bool.and_eq_false_iff Bool.not_eq_true' Bool.not_eq_false'

theorem Row.cut {α : Type} [Rep α] {g : PH} {L : Mem} {e : TypeId} {sz n : Nat} {A : Option Addr} {m c : Nat} {xs : List Value} (hsz : sz = Rep.sz α) (h : Row g e sz (.slice A m c) n xs) : Bld (α := α) g L e (.slice A 0 c) [] := by
  subst hsz
  rcases h.2 with ⟨q0, A', q⟩ | ⟨b, o, cap, cur, q1, q2, q3, q4, q5, q6⟩
  · simp only [Value.slice.injEq] at q
    obtain ⟨rfl, rfl, rfl⟩ := q
    exact ⟨[], ⟨by simp, .inl ⟨rfl, _, rfl⟩⟩, by simp⟩
  · simp only [Value.slice.injEq] at q1
    obtain ⟨rfl, rfl, rfl⟩ := q1
    exact ⟨[], ⟨by simp, .inr ⟨b, o, cap, cur, rfl, by simp, q3, q4, q5, by simp⟩⟩, by simp⟩
theorem Bld.fresh {α : Type} [Rep α] (g : PH) (L : Mem) (e : TypeId) (A : Option Addr) : Bld (α := α) g L e (.slice A 0 0) [] := ⟨[], ⟨by simp, .inl ⟨rfl, A, rfl⟩⟩, by simp⟩
theorem clone_sy {Γr : Ctx} {A : Option Addr} {c : Nat} {xs : List Sy} (hx : SlOk (lk Γr) A c xs) (hs : xs.length ≤ 1048576) :
    Ret Try.prog 129 [.slice A xs.length c] Γr [] (fun v Γ => ∃ g, Γ = [g] ∧ Bld g (lk []) 39 v xs) := by
  generalize hR : (fun (v : Value) (Γ : Ctx) => ∃ g, _) = R
  refine ret_of_vc tr129 (Nat.le_of_ble_eq_true rfl) ?_
  simp -implicitDefEqProofs only [S129, S129_0, go_sem, Nat.reduceBEq, Nat.reduceAdd, Nat.reduceSub, Nat.reduceMul, Nat.reduceLeDiff, reduceCtorEq, ↓reduceIte, Int.reduceLT, Int.reduceLE, Int.reduceEq, Int.reduceNe]
  refine ⟨fun hn => Up.to [emp] ⟨(fun h hh k o hk => by simp at hh; subst hh; cases hk), (fun _ => by simp)⟩ ?_, fun hn => ?_⟩
  · have : A = none := by simpa using hn
    subst this
    have := hx.ofNone
    subst this
    subst hR
    exact ⟨_, rfl, Bld.nil _ _ _⟩
  · intro b
    have any : ∀ {L1 L2 : Mem} {g : PH} {v : Value} {zs : List Sy}, Bld g L1 39 v zs → Bld g L2 39 v zs := fun ⟨cs, h1, h3⟩ => ⟨cs, h1, fun i x hi => let ⟨c, q1, q2⟩ := h3 i x hi; ⟨c, q1, q2⟩⟩
    refine s_appL (α := Sy) (xs := []) (ix := 0) (L := lk []) (L' := lk Γr) (L2 := lk Γr) rfl (Bld.fresh _ _ _ _) (lk_sub (by simp)) hx (lk_r _ _) (Mem.le.refl _) rfl (by simp; omega) (by simp [maxLen]; omega) ?_
    intro v g hB _
    simp -implicitDefEqProofs only [go_sem, Nat.reduceBEq, Nat.reduceAdd, Nat.reduceSub, Nat.reduceMul, Nat.reduceLeDiff, reduceCtorEq, ↓reduceIte, Int.reduceLT, Int.reduceLE, Int.reduceEq, Int.reduceNe]
    refine Up.here ?_
    subst hR
    exact ⟨_, rfl, any hB⟩
theorem clone_ru {Γr : Ctx} {A : Option Addr} {c : Nat} {xs : List Ru} (hx : SlOk (lk Γr) A c xs) (hs : xs.length ≤ 1048576) :
    Ret Try.prog 136 [.slice A xs.length c] Γr [] (fun v Γ => ∃ g, Γ = [g] ∧ Bld g (lk Γr) 37 v xs) := by
  generalize hR : (fun (v : Value) (Γ : Ctx) => ∃ g, _) = R
  refine ret_of_vc tr136 (Nat.le_of_ble_eq_true rfl) ?_
  simp -implicitDefEqProofs only [S136, S136_0, go_sem, Nat.reduceBEq, Nat.reduceAdd, Nat.reduceSub, Nat.reduceMul, Nat.reduceLeDiff, reduceCtorEq, ↓reduceIte, Int.reduceLT, Int.reduceLE, Int.reduceEq, Int.reduceNe]
  refine ⟨fun hn => Up.to [emp] ⟨(fun h hh k o hk => by simp at hh; subst hh; cases hk), (fun _ => by simp)⟩ ?_, fun hn => ?_⟩
  · have : A = none := by simpa using hn
    subst this
    have := hx.ofNone
    subst this
    subst hR
    exact ⟨_, rfl, Bld.nil _ _ _⟩
  · intro b
    refine s_appL (α := Ru) (xs := []) (ix := 0) (L := lk []) (L' := lk Γr) (L2 := lk Γr) rfl (Bld.fresh _ _ _ _) (lk_sub (by simp)) hx (lk_r _ _) (Mem.le.refl _) rfl (by simp; omega) (by simp [maxLen]; omega) ?_
    intro v g hB _
    simp -implicitDefEqProofs only [go_sem, Nat.reduceBEq, Nat.reduceAdd, Nat.reduceSub, Nat.reduceMul, Nat.reduceLeDiff, reduceCtorEq, ↓reduceIte, Int.reduceLT, Int.reduceLE, Int.reduceEq, Int.reduceNe]
    refine Up.here ?_
    subst hR
    exact ⟨_, rfl, hB⟩
theorem grow_words {Γr : Ctx} (n : Nat) (hn : n ≤ 2000000) :
    Ret Try.prog 131 [.slice none 0 0, .int .i64 n] Γr [] (fun v Γ => ∃ g, Γ = [g] ∧ Bld (α := List Int) g (lk []) 29 v []) := by
  generalize hR : (fun (v : Value) (Γ : Ctx) => ∃ g, _) = R
  refine ret_of_vc1 tr131 (Nat.le_of_ble_eq_true rfl) ?_
  simp only [S131, S131_0, go_sem, Nat.reduceBEq, Nat.reduceAdd, Nat.reduceSub, Nat.reduceMul, Nat.reduceLeDiff, reduceCtorEq, ↓reduceIte, Int.reduceLT, Int.reduceLE, Int.reduceEq, Int.reduceNe]
  refine s_split ?_
  simp only [S131_1, S131_2, S131_3, S131_4, go_sem, Nat.reduceBEq, Nat.reduceAdd, Nat.reduceSub, Nat.reduceMul, Nat.reduceLeDiff, reduceCtorEq, ↓reduceIte, Int.reduceLT, Int.reduceLE, Int.reduceEq, Int.reduceNe]
  refine ⟨fun h => by omega, fun _ => Up.here ?_⟩
  refine s_split ?_
  simp only [go_sem, Nat.reduceBEq, Nat.reduceAdd, Nat.reduceSub, Nat.reduceMul, Nat.reduceLeDiff, reduceCtorEq, ↓reduceIte, Int.reduceLT, Int.reduceLE, Int.reduceEq, Int.reduceNe]
  refine s_q trivial (qr_cap (e := 29) (by kernel_rfl)) ?_
  simp only [go_sem, Nat.reduceBEq, Nat.reduceAdd, Nat.reduceSub, Nat.reduceMul, Nat.reduceLeDiff, reduceCtorEq, ↓reduceIte, Int.reduceLT, Int.reduceLE, Int.reduceEq, Int.reduceNe]
  have hw : IntKind.i64.wrap ((n : Int) - IntKind.i64.wrap (0 - 0)) = n := by
    rw [wrap_id (x := 0 - 0) (by omega) (by omega), wrap_id (by omega) (by omega)]
    omega
  rw [hw]
  refine ⟨fun hpos => ?_, fun hz => ?_⟩
  · refine s_q trivial (qr_cap (e := 29) (by kernel_rfl)) ?_
    simp only [go_sem, Nat.reduceBEq, Nat.reduceAdd, Nat.reduceSub, Nat.reduceMul, Nat.reduceLeDiff, reduceCtorEq, ↓reduceIte, Int.reduceLT, Int.reduceLE, Int.reduceEq, Int.reduceNe]
    refine s_hi 0 (by simp only [go_sem, Nat.reduceBEq, Nat.reduceAdd, Nat.reduceSub, Nat.reduceMul, Nat.reduceLeDiff, reduceCtorEq, ↓reduceIte, Int.reduceLT, Int.reduceLE, Int.reduceEq, Int.reduceNe]; exact ⟨_, rfl⟩) (by omega) ?_
    simp only [go_sem, Nat.reduceBEq, Nat.reduceAdd, Nat.reduceSub, Nat.reduceMul, Nat.reduceLeDiff, reduceCtorEq, ↓reduceIte, Int.reduceLT, Int.reduceLE, Int.reduceEq, Int.reduceNe]
    refine s_appz (ix := 0) rfl (by omega) (by omega) (by simp [maxLen]; omega) ?_
    intro v g hr
    obtain ⟨A, c, rfl, hc⟩ := hr.len
    simp only [go_sem, Nat.reduceBEq, Nat.reduceAdd, Nat.reduceSub, Nat.reduceMul, Nat.reduceLeDiff, reduceCtorEq, ↓reduceIte, Int.reduceLT, Int.reduceLE, Int.reduceEq, Int.reduceNe]
    refine s_hi 0 (by simp only [go_sem, Nat.reduceBEq, Nat.reduceAdd, Nat.reduceSub, Nat.reduceMul, Nat.reduceLeDiff, reduceCtorEq, ↓reduceIte, Int.reduceLT, Int.reduceLE, Int.reduceEq, Int.reduceNe]; exact ⟨_, rfl⟩) (by omega) ?_
    simp only [go_sem, Nat.reduceBEq, Nat.reduceAdd, Nat.reduceSub, Nat.reduceMul, Nat.reduceLeDiff, reduceCtorEq, ↓reduceIte, Int.reduceLT, Int.reduceLE, Int.reduceEq, Int.reduceNe]
    refine Up.here (Up.here ?_)
    subst hR
    exact ⟨_, rfl, Row.cut rfl hr⟩
  · refine Up.here (Up.here ?_)
    subst hR
    exact ⟨_, rfl, Bld.nil _ _ _⟩
theorem concat_words {Γr : Ctx} {B : Option Addr} {d : Nat} {xss : List (List (List Int))} (hx : SlOk (lk Γr) B d xss) (hs : xss.flatten.length ≤ 2000000) (hl : xss.length ≤ 2000000) :
    Ret Try.prog 58 [.slice B xss.length d] Γr [] (fun v Γ => ∃ g, Γ = [g] ∧ Bld g (lk Γr) 29 v xss.flatten) := by
  generalize hR : (fun (v : Value) (Γ : Ctx) => ∃ g, _) = R
  refine ret_of_vc tr58 (Nat.le_of_ble_eq_true rfl) ?_
  simp only [S58, S58_0, go_sem, Nat.reduceBEq, Nat.reduceAdd, Nat.reduceSub, Nat.reduceMul, Nat.reduceLeDiff, reduceCtorEq, ↓reduceIte, Int.reduceLT, Int.reduceLE, Int.reduceEq, Int.reduceNe]
  have hpre : ∀ k, (xss.take k).flatten.length ≤ xss.flatten.length := fun k => by
    conv => rhs; rw [← List.take_append_drop k xss, List.flatten_append, List.length_append]
    omega
  have hstep : ∀ k (hk : k < xss.length), (xss.take (k + 1)).flatten = (xss.take k).flatten ++ xss[k] := fun k hk => by
    rw [List.take_succ_eq_append_getElem hk]; simp only [List.flatten_append, List.flatten_cons, List.flatten_nil, List.append_nil]
  refine s_loop (fun f vs Γ => Γ = [] ∧ ∃ k : Nat, vs = [.v true (.int .i64 ((xss.take k).flatten.length : Nat)), .v true (.int .i64 k)] ∧ k + f = xss.length) xss.length (Up.here ⟨rfl, 0, rfl, by omega⟩) ?_
  rintro f vs Γ ⟨rfl, k, rfl, hkf⟩
  simp only [S58_3, go_sem, Nat.reduceBEq, Nat.reduceAdd, Nat.reduceSub, Nat.reduceMul, Nat.reduceLeDiff, reduceCtorEq, ↓reduceIte, Int.reduceLT, Int.reduceLE, Int.reduceEq, Int.reduceNe]
  have h1 := hpre k
  have h2 := hpre (k + 1)
  refine ⟨fun hlt => ?_, fun hge => ?_⟩
  · have hk : k < xss.length := by omega
    have h3 := congrArg List.length (hstep k hk)
    simp only [List.length_append] at h3
    obtain ⟨b, o, hA, A', c', hs', hc⟩ := hx.list hk
    refine s_split ?_
    simp only [S58_1, S58_2, go_sem, Nat.reduceBEq, Nat.reduceAdd, Nat.reduceSub, Nat.reduceMul, Nat.reduceLeDiff, reduceCtorEq, ↓reduceIte, Int.reduceLT, Int.reduceLE, Int.reduceEq, Int.reduceNe]
    refine s_idx hA (by omega) (by omega) ?_
    simp only [go_sem, Nat.reduceBEq, Nat.reduceAdd, Nat.reduceSub, Nat.reduceMul, Nat.reduceLeDiff, reduceCtorEq, ↓reduceIte, Int.reduceLT, Int.reduceLE, Int.reduceEq, Int.reduceNe]
    refine s_ld0 (hc _ (Mem.le.refl _)) (by simp) (by simp) ?_
    simp only [go_sem, Nat.reduceBEq, Nat.reduceAdd, Nat.reduceSub, Nat.reduceMul, Nat.reduceLeDiff, reduceCtorEq, ↓reduceIte, Int.reduceLT, Int.reduceLE, Int.reduceEq, Int.reduceNe]
    simp (disch := omega) only [wrap_id]
    refine ⟨fun h => by omega, fun _ => Up.here ?_⟩
    exact ⟨f - 1, by omega, Up.here ⟨rfl, k + 1, by rw [h3]; rfl, by omega⟩⟩
  have hk : k = xss.length := by omega
  rw [hk, List.take_length]
  refine CallVC.read (grow_words _ (by omega)) ?_
  rintro v Γ' ⟨g, rfl, hB⟩
  obtain ⟨A0, c0, rfl⟩ := hB.val
  simp only [go_sem, Nat.reduceBEq, Nat.reduceAdd, Nat.reduceSub, Nat.reduceMul, Nat.reduceLeDiff, reduceCtorEq, ↓reduceIte, Int.reduceLT, Int.reduceLE, Int.reduceEq, Int.reduceNe]
  refine s_loop (fun f vs Γ => ∃ g, Γ = [g] ∧ ∃ (k : Nat) (u : Value), vs = [.v true u, .v true (.int .i64 k)] ∧ k + f = xss.length ∧ Bld g (lk Γr) 29 u (xss.take k).flatten) xss.length (Up.here ⟨_, rfl, 0, _, rfl, by omega, hB.mono (Mem.le.refl _) (lk_sub (by simp))⟩) ?_
  rintro f vs Γ ⟨g, rfl, k, u, rfl, hkf, hB⟩
  simp only [S58_4, go_sem, Nat.reduceBEq, Nat.reduceAdd, Nat.reduceSub, Nat.reduceMul, Nat.reduceLeDiff, reduceCtorEq, ↓reduceIte, Int.reduceLT, Int.reduceLE, Int.reduceEq, Int.reduceNe]
  have h1 := hpre k
  have h2 := hpre (k + 1)
  refine ⟨fun hlt => ?_, fun hge => ?_⟩
  · have hk : k < xss.length := by omega
    have h3 := congrArg List.length (hstep k hk)
    simp only [List.length_append] at h3
    obtain ⟨b, o, hA, A', c', hs', hc⟩ := hx.list hk
    refine s_idx hA (by omega) (by omega) ?_
    simp only [go_sem, Nat.reduceBEq, Nat.reduceAdd, Nat.reduceSub, Nat.reduceMul, Nat.reduceLeDiff, reduceCtorEq, ↓reduceIte, Int.reduceLT, Int.reduceLE, Int.reduceEq, Int.reduceNe]
    refine s_ld0 (hc _ (lk_r _ _)) (by simp) (by simp) ?_
    simp only [go_sem, Nat.reduceBEq, Nat.reduceAdd, Nat.reduceSub, Nat.reduceMul, Nat.reduceLeDiff, reduceCtorEq, ↓reduceIte, Int.reduceLT, Int.reduceLE, Int.reduceEq, Int.reduceNe]
    refine s_appL (ix := 0) (L' := lk Γr) (L2 := lk Γr) rfl hB (Mem.le.refl _) hs' (lk_r _ _) (Mem.le.refl _) rfl (by omega) (by unfold maxLen; omega) ?_
    intro v' g' hB' _
    simp only [go_sem, Nat.reduceBEq, Nat.reduceAdd, Nat.reduceSub, Nat.reduceMul, Nat.reduceLeDiff, reduceCtorEq, ↓reduceIte, Int.reduceLT, Int.reduceLE, Int.reduceEq, Int.reduceNe]
    simp (disch := omega) only [wrap_id]
    rw [← hstep k hk] at hB'
    exact ⟨f - 1, by omega, Up.here ⟨_, rfl, k + 1, _, rfl, by omega, hB'⟩⟩
  · have hk : k = xss.length := by omega
    rw [hk, List.take_length] at hB
    refine Up.here ?_
    subst hR
    exact ⟨_, rfl, hB⟩
/-- a condition of words, as a function value -/
def PredW (Γr : Ctx) (fv : Value) (p : List Int → Bool) : Prop := ∃ g c1 c2, fv = .func (.func g) c1 c2 ∧ ∀ (Γ : Ctx) (A : Option Addr) (c : Nat) (w : List Int), Mem.le (lk Γr) (lk Γ) → SlOk (lk Γ) A c w → Ret Try.prog g (c1.toList ++ [.slice A w.length c] ++ c2.toList) Γ [] (fun r Γ => Γ = [] ∧ r = .bool (p w))
theorem indexFunc_words {Γr : Ctx} {A : Option Addr} {c : Nat} {xs : List (List Int)} (hx : SlOk (lk Γr) A c xs) {fv : Value} {p : List Int → Bool} (hp : PredW Γr fv p) :
    Ret Try.prog 132 [.slice A xs.length c, fv] Γr [] (fun v Γ => Γ = [] ∧ v = .int .i64 (match xs.findIdx? p with | some i => (i : Int) | none => -1)) := by
  generalize hR : (fun (v : Value) (Γ : Ctx) => Γ = [] ∧ _) = R
  refine ret_of_vc tr132 (Nat.le_of_ble_eq_true rfl) ?_
  have h1 := hx.short
  obtain ⟨g, c1, c2, rfl, hp⟩ := hp
  simp only [S132, S132_0, go_sem, Nat.reduceBEq, Nat.reduceAdd, Nat.reduceSub, Nat.reduceMul, Nat.reduceLeDiff, reduceCtorEq, ↓reduceIte, Int.reduceLT, Int.reduceLE, Int.reduceEq, Int.reduceNe]
  refine s_loop (fun f vs Γ => Γ = [] ∧ ∃ k : Nat, vs = [.v true (.int .i64 k)] ∧ k + f = xs.length ∧ ∀ (j : Nat) (hj : j < xs.length), j < k → p xs[j] = false) xs.length (Up.here ⟨rfl, 0, rfl, by omega, fun j _ h => by omega⟩) ?_
  rintro f vs Γ ⟨rfl, k, rfl, hkf, hno⟩
  simp only [S132_1, go_sem, Nat.reduceBEq, Nat.reduceAdd, Nat.reduceSub, Nat.reduceMul, Nat.reduceLeDiff, reduceCtorEq, ↓reduceIte, Int.reduceLT, Int.reduceLE, Int.reduceEq, Int.reduceNe]
  refine ⟨fun hlt => ?_, fun hge => ?_⟩
  · have hk : k < xs.length := by omega
    obtain ⟨b, o, hA, A2, c2', hs2, hc1⟩ := hx.list hk
    refine s_idx hA (by omega) (by omega) ?_
    simp only [go_sem, Nat.reduceBEq, Nat.reduceAdd, Nat.reduceSub, Nat.reduceMul, Nat.reduceLeDiff, reduceCtorEq, ↓reduceIte, Int.reduceLT, Int.reduceLE, Int.reduceEq, Int.reduceNe]
    refine s_ld0 (hc1 _ (Mem.le.refl _)) (by simp) (by simp) ?_
    simp only [go_sem, Nat.reduceBEq, Nat.reduceAdd, Nat.reduceSub, Nat.reduceMul, Nat.reduceLeDiff, reduceCtorEq, ↓reduceIte, Int.reduceLT, Int.reduceLE, Int.reduceEq, Int.reduceNe]
    refine CallVC.read (hp _ _ _ _ (Mem.le.refl _) hs2) ?_
    rintro v Γ' ⟨rfl, rfl⟩
    simp only [go_sem, Nat.reduceBEq, Nat.reduceAdd, Nat.reduceSub, Nat.reduceMul, Nat.reduceLeDiff, reduceCtorEq, ↓reduceIte, Int.reduceLT, Int.reduceLE, Int.reduceEq, Int.reduceNe]
    refine ⟨fun he => Up.here ?_, fun hne => ?_⟩
    · subst hR
      refine ⟨rfl, ?_⟩
      have : xs.findIdx? p = some k := by
        rw [List.findIdx?_eq_some_iff_getElem]
        exact ⟨hk, he, fun j hj => by simpa using hno j (by omega) hj⟩
      rw [this]
    · simp (disch := omega) only [wrap_id]
      exact ⟨f - 1, by omega, Up.here ⟨rfl, k + 1, rfl, by omega, fun j hj hjk => by
        by_cases e : j = k
        · subst e; exact hne
        · exact hno j hj (by omega)⟩⟩
  · have hk : k = xs.length := by omega
    refine Up.here ?_
    subst hR
    refine ⟨rfl, ?_⟩
    have : xs.findIdx? p = none := by
      rw [List.findIdx?_eq_none_iff]
      intro y hy
      obtain ⟨j, hj, rfl⟩ := List.getElem_of_mem hy
      exact hno j hj (by omega)
    rw [this]
theorem containsFunc_words {Γr : Ctx} {A : Option Addr} {c : Nat} {xs : List (List Int)} (hx : SlOk (lk Γr) A c xs) {fv : Value} {p : List Int → Bool} (hp : PredW Γr fv p) :
    Ret Try.prog 59 [.slice A xs.length c, fv] Γr [] (fun v Γ => Γ = [] ∧ v = .bool (xs.any p)) := by
  generalize hR : (fun (v : Value) (Γ : Ctx) => Γ = [] ∧ _) = R
  refine ret_of_vc tr59 (Nat.le_of_ble_eq_true rfl) ?_
  simp only [S59, S59_0, go_sem, Nat.reduceBEq, Nat.reduceAdd, Nat.reduceSub, Nat.reduceMul, Nat.reduceLeDiff, reduceCtorEq, ↓reduceIte, Int.reduceLT, Int.reduceLE, Int.reduceEq, Int.reduceNe]
  refine CallVC.read (indexFunc_words hx hp) ?_
  rintro v Γ' ⟨rfl, rfl⟩
  simp only [go_sem, Nat.reduceBEq, Nat.reduceAdd, Nat.reduceSub, Nat.reduceMul, Nat.reduceLeDiff, reduceCtorEq, ↓reduceIte, Int.reduceLT, Int.reduceLE, Int.reduceEq, Int.reduceNe]
  refine Up.here ?_
  subst hR
  refine ⟨rfl, ?_⟩
  cases hf : xs.findIdx? p with
  | none =>
    rw [List.findIdx?_eq_none_iff] at hf
    have : xs.any p = false := by simpa using hf
    simp [this]
  | some i =>
    obtain ⟨hi, h1, _⟩ := List.findIdx?_eq_some_iff_getElem.1 hf
    have : xs.any p = true := List.any_eq_true.2 ⟨_, List.getElem_mem hi, h1⟩
    simp [this]
end Go.Proofs.Ytniobbepliknmaa.V
/- The text of slices.Equal[[]parlance/api.Sym,parlance/api.Sym] as a statement (slots: 0 s1, 1 s2, 2 s1, 3 s2, 5 i); no condition. -/
namespace Go.Proofs.Ytniobbepliknmaa.V
open Go
def S64_1 : Stmt :=
  Stmt.seq
  (Stmt.region [SOper.mk (some 14) none (SOp.ibin BinOp.lss (Operand.tmp 13) (Operand.tmp 12))] [0, 1, 12, 13, 14])
  (Stmt.seq (Stmt.cond (Operand.tmp 14) Stmt.skip (Stmt.exit 0))
    (Stmt.seq
      (Stmt.block 1
        (Stmt.seq
          (Stmt.region
            [SOper.mk (some 15) none (SOp.mv (Operand.tmp 13)), SOper.mk (some 5) none (SOp.mv (Operand.tmp 15))]
            [0, 1, 5, 12, 13])
          (Stmt.seq
            (Stmt.quiet
              [SOper.mk (some 16) none (SOp.mv (Operand.tmp 0)), SOper.mk (some 17) none (SOp.mv (Operand.tmp 5)),
                SOper.mk (some 18) none (SOp.idx 2 (Operand.tmp 16) (Operand.tmp 17)),
                SOper.mk (some 19) none (SOp.load true 2 (Operand.tmp 18)),
                SOper.mk (some 20) none (SOp.mv (Operand.tmp 1)), SOper.mk (some 21) none (SOp.mv (Operand.tmp 5)),
                SOper.mk (some 22) none (SOp.idx 2 (Operand.tmp 20) (Operand.tmp 21)),
                SOper.mk (some 23) none (SOp.load true 2 (Operand.tmp 22)),
                SOper.mk (some 24) none
                  (SOp.q (Qk.bin BinOp.neq 39 (Operand.tmp 19) (Operand.tmp 23)) [Operand.tmp 19, Operand.tmp 23])]
              [0, 1, 12, 13, 24])
            (Stmt.cond (Operand.tmp 24)
              (Stmt.seq (Stmt.region [SOper.mk (some 4) none (SOp.mv (Operand.const (Value.bool false)))] [4]) Stmt.ret)
              Stmt.skip))))
      (Stmt.region
        [SOper.mk (some 25) none (SOp.ibin BinOp.add (Operand.tmp 13) (Operand.const (Value.int IntKind.i64 1))),
          SOper.mk (some 13) none (SOp.mv (Operand.tmp 25))]
        [0, 1, 12, 13])))
def S64_0 : Stmt :=
  Stmt.seq (Stmt.region [SOper.mk (some 4) none (SOp.mv (Operand.const (Value.bool false)))] [0, 1])
  (Stmt.seq
    (Stmt.seq
      (Stmt.region
        [SOper.mk (some 6) none (SOp.mv (Operand.tmp 0)), SOper.mk (some 7) none (SOp.len false (Operand.tmp 6)),
          SOper.mk (some 8) none (SOp.mv (Operand.tmp 1)), SOper.mk (some 9) none (SOp.len false (Operand.tmp 8)),
          SOper.mk (some 10) none (SOp.ibin BinOp.neq (Operand.tmp 7) (Operand.tmp 9))]
        [0, 1, 10])
      (Stmt.cond (Operand.tmp 10)
        (Stmt.seq (Stmt.region [SOper.mk (some 4) none (SOp.mv (Operand.const (Value.bool false)))] [4]) Stmt.ret)
        Stmt.skip))
    (Stmt.seq
      (Stmt.seq
        (Stmt.region
          [SOper.mk (some 11) none (SOp.mv (Operand.tmp 0)), SOper.mk (some 12) none (SOp.len false (Operand.tmp 11)),
            SOper.mk (some 13) none (SOp.mv (Operand.const (Value.int IntKind.i64 0)))]
          [0, 1, 12, 13])
        (Stmt.block 0 (Stmt.loop S64_1 [13] [0, 1, 12])))
      (Stmt.seq (Stmt.region [SOper.mk (some 4) none (SOp.mv (Operand.const (Value.bool true)))] [4]) Stmt.ret)))
def S64 : FnS := ⟨26, [(4, none)], S64_0⟩
theorem tr64 : trFn Try.prog 64 [] [[0, 1], [0, 1, 10], [4], [0, 1, 12, 13], [13], [0, 1, 12], [0, 1, 12, 13, 14], [0, 1, 5, 12, 13], [0, 1, 12, 13, 24], [4], [0, 1, 12, 13], [4]] = some S64 := by kernel_rfl
end Go.Proofs.Ytniobbepliknmaa.V
/- The text of slices.EqualFunc[[]parlance/api.Rule,[]parlance/api.Rule,parlance/api.Rule,parlance/api.Rule] as a statement (slots: 0 s1, 1 s2, 2 eq, 3 s1, 4 s2, 5 eq, 7 i, 8 v1, 9 v2); no condition. -/
namespace Go.Proofs.Ytniobbepliknmaa.V
open Go
def S62_1 : Stmt :=
  Stmt.seq
  (Stmt.region [SOper.mk (some 18) none (SOp.ibin BinOp.lss (Operand.tmp 17) (Operand.tmp 16))] [1, 2, 15, 16, 17, 18])
  (Stmt.seq (Stmt.cond (Operand.tmp 18) Stmt.skip (Stmt.exit 0))
    (Stmt.seq
      (Stmt.block 1
        (Stmt.seq
          (Stmt.region
            [SOper.mk (some 19) none (SOp.mv (Operand.tmp 17)),
              SOper.mk (some 20) none (SOp.idx 2 (Operand.tmp 15) (Operand.tmp 17)),
              SOper.mk (some 21) none (SOp.load true 2 (Operand.tmp 20)),
              SOper.mk (some 8) none
                (SOp.alloc true 37 (Value.agg (Array.mk [Value.int IntKind.i64 0, Value.slice none 0 0]))),
              SOper.mk (some 7) none (SOp.mv (Operand.tmp 19)),
              SOper.mk none none (SOp.store 2 (Operand.tmp 8) (Operand.tmp 21))]
            [1, 2, 7, 8, 15, 16, 17])
          (Stmt.seq
            (Stmt.region
              [SOper.mk (some 22) none (SOp.mv (Operand.tmp 1)), SOper.mk (some 23) none (SOp.mv (Operand.tmp 7)),
                SOper.mk (some 24) none (SOp.idx 2 (Operand.tmp 22) (Operand.tmp 23)),
                SOper.mk (some 25) none (SOp.load true 2 (Operand.tmp 24)),
                SOper.mk (some 9) none
                  (SOp.alloc true 37 (Value.agg (Array.mk [Value.int IntKind.i64 0, Value.slice none 0 0]))),
                SOper.mk none none (SOp.store 2 (Operand.tmp 9) (Operand.tmp 25))]
              [1, 2, 8, 9, 15, 16, 17])
            (Stmt.seq
              (Stmt.region
                [SOper.mk (some 26) none (SOp.mv (Operand.tmp 2)),
                  SOper.mk (some 27) none (SOp.load true 2 (Operand.tmp 8)),
                  SOper.mk (some 28) none (SOp.load true 2 (Operand.tmp 9)),
                  SOper.mk (some 29) none (SOp.call (Operand.tmp 26) [Operand.tmp 27, Operand.tmp 28]),
                  SOper.mk (some 30) none (SOp.un UnOp.not (Operand.tmp 29))]
                [1, 2, 15, 16, 17, 30])
              (Stmt.cond (Operand.tmp 30)
                (Stmt.seq (Stmt.region [SOper.mk (some 6) none (SOp.mv (Operand.const (Value.bool false)))] [6])
                  Stmt.ret)
                Stmt.skip)))))
      (Stmt.region
        [SOper.mk (some 31) none (SOp.ibin BinOp.add (Operand.tmp 17) (Operand.const (Value.int IntKind.i64 1))),
          SOper.mk (some 17) none (SOp.mv (Operand.tmp 31))]
        [1, 2, 15, 16, 17])))
def S62_0 : Stmt :=
  Stmt.seq (Stmt.region [SOper.mk (some 6) none (SOp.mv (Operand.const (Value.bool false)))] [0, 1, 2])
  (Stmt.seq
    (Stmt.seq
      (Stmt.region
        [SOper.mk (some 10) none (SOp.mv (Operand.tmp 0)), SOper.mk (some 11) none (SOp.len false (Operand.tmp 10)),
          SOper.mk (some 12) none (SOp.mv (Operand.tmp 1)), SOper.mk (some 13) none (SOp.len false (Operand.tmp 12)),
          SOper.mk (some 14) none (SOp.ibin BinOp.neq (Operand.tmp 11) (Operand.tmp 13))]
        [0, 1, 2, 14])
      (Stmt.cond (Operand.tmp 14)
        (Stmt.seq (Stmt.region [SOper.mk (some 6) none (SOp.mv (Operand.const (Value.bool false)))] [6]) Stmt.ret)
        Stmt.skip))
    (Stmt.seq
      (Stmt.seq
        (Stmt.region
          [SOper.mk (some 15) none (SOp.mv (Operand.tmp 0)), SOper.mk (some 16) none (SOp.len false (Operand.tmp 15)),
            SOper.mk (some 17) none (SOp.mv (Operand.const (Value.int IntKind.i64 0)))]
          [1, 2, 15, 16, 17])
        (Stmt.block 0 (Stmt.loop S62_1 [17] [1, 2, 15, 16])))
      (Stmt.seq (Stmt.region [SOper.mk (some 6) none (SOp.mv (Operand.const (Value.bool true)))] [6]) Stmt.ret)))
def S62 : FnS := ⟨32, [(6, none)], S62_0⟩
theorem tr62 : trFn Try.prog 62 [8, 9] [[0, 1, 2], [0, 1, 2, 14], [6], [1, 2, 15, 16, 17], [17], [1, 2, 15, 16], [1, 2, 15, 16, 17, 18], [1, 2, 7, 8, 15, 16, 17], [1, 2, 8, 9, 15, 16, 17], [1, 2, 15, 16, 17, 30], [6], [1, 2, 15, 16, 17], [6]] = some S62 := by kernel_rfl
end Go.Proofs.Ytniobbepliknmaa.V
/- The text of parlance/parllaw5.GuessTells$1 as a statement (slots: 0 v, 2 v); no condition. -/
namespace Go.Proofs.Ytniobbepliknmaa.V
open Go
def S60_0 : Stmt :=
  Stmt.seq (Stmt.region [SOper.mk (some 3) none (SOp.mv (Operand.const (Value.bool false)))] [0, 1])
  (Stmt.seq
    (Stmt.region
      [SOper.mk (some 4) none (SOp.mv (Operand.tmp 0)), SOper.mk (some 5) none (SOp.load false 1 (Operand.tmp 1)),
        SOper.mk (some 6) none (SOp.call (Operand.func 28) [Operand.tmp 4, Operand.tmp 5]),
        SOper.mk (some 3) none (SOp.mv (Operand.tmp 6))]
      [3])
    Stmt.ret)
def S60 : FnS := ⟨7, [(3, none)], S60_0⟩
theorem tr60 : trFn Try.prog 60 [] [[0, 1], [3]] = some S60 := by kernel_rfl
end Go.Proofs.Ytniobbepliknmaa.V
/- The text of parlance/parllaw5.GuessTells$2 as a statement (slots: 0 a, 1 b, 2 a, 3 b); no condition. -/
namespace Go.Proofs.Ytniobbepliknmaa.V
open Go
def S63_0 : Stmt :=
  Stmt.seq
  (Stmt.region
    [SOper.mk (some 2) none (SOp.box true 37 (Operand.tmp 0)), SOper.mk (some 3) none (SOp.box true 37 (Operand.tmp 1)),
      SOper.mk (some 4) none (SOp.mv (Operand.const (Value.bool false)))]
    [2, 3])
  (Stmt.seq
    (Stmt.region
      [SOper.mk (some 5) none (SOp.fld 0 (Operand.tmp 2)), SOper.mk (some 6) none (SOp.load false 1 (Operand.tmp 5)),
        SOper.mk (some 7) none (SOp.fld 0 (Operand.tmp 3)), SOper.mk (some 8) none (SOp.load false 1 (Operand.tmp 7)),
        SOper.mk (some 9) none (SOp.ibin BinOp.eql (Operand.tmp 6) (Operand.tmp 8)),
        SOper.mk (some 10) none (SOp.mv (Operand.tmp 9)),
        SOper.mk (some 11) (some (10, true)) (SOp.fld 1 (Operand.tmp 2)),
        SOper.mk (some 12) (some (10, true)) (SOp.load false 1 (Operand.tmp 11)),
        SOper.mk (some 13) (some (10, true)) (SOp.fld 1 (Operand.tmp 3)),
        SOper.mk (some 14) (some (10, true)) (SOp.load false 1 (Operand.tmp 13)),
        SOper.mk (some 15) (some (10, true)) (SOp.call (Operand.func 64) [Operand.tmp 12, Operand.tmp 14]),
        SOper.mk (some 16) none (SOp.pick (Operand.tmp 10) (Operand.tmp 15) (Operand.const (Value.bool false))),
        SOper.mk (some 4) none (SOp.mv (Operand.tmp 16))]
      [4])
    Stmt.ret)
def S63 : FnS := ⟨17, [(4, none)], S63_0⟩
theorem tr63 : trFn Try.prog 63 [2, 3] [[2, 3], [4]] = some S63 := by kernel_rfl
end Go.Proofs.Ytniobbepliknmaa.V
/- Symbols, rules and lists of them are the same; no condition. -/
namespace Go.Proofs.Ytniobbepliknmaa.V
open Go
set_option linter.unusedVariables false
set_option linter.unusedSimpArgs false
attribute [local go_sem] e_seq e_region e_quiet e_join e_loop e_cond e_block e_exit e_ret e_skip e_fin e_kseq e_snrm e_sret e_sex e_bnrm e_bret e_bex e_rnrm e_rret e_res e_condC e_nil e_g e_mv g_mv e_pick g_pick pickC_eq e_ibin g_ibin ibinC_eq e_sbin g_sbin e_beq g_beq beqC_eq e_nilq g_nilq nilqC_sl nilqC_pt nilqC_mp e_un g_un unC_not unC_neg e_conv g_conv convC_eq e_fld g_fld fldC_ref fldC_ptr e_nilCheck g_nilCheck nilCheckC_ref nilCheckC_ptr nilCheckC_fun e_field g_field fieldC_eq e_len g_len lenC_sl lenC_str e_extract g_extract extractC_eq e_mkFunc e_build g_build e_idiv g_idiv idivC_eq e_ishift g_ishift ishiftC_eq e_idx g_idx e_idxA g_idxA e_load g_load loadC_ref loadC_ptr loadB_eq e_slc g_slc e_box boxC_loc boxC_esc e_alloc allocC_loc allocC_esc e_buildS e_store storeC_ref storeC_ptr storeB_eq e_append e_appz e_mk mkC_eq e_call callC_eq e_fn g_fn fnC_eq fnV_min' fnV_max' fnV_rune' e_q g_q e_a e_n g_call g_box g_alloc g_buildS g_store g_append g_mk g_a g_n g_dead e_dead e_callK e_drawn e_tree e_finJ e_tk e_tfin e_tno e_nbt_q e_nbt_qn e_nbt_a e_nbt_an e_nbt_fin e_early_nil e_early_t e_early_f e_nob_nil e_nob_none e_nob_some isBox_dead isBox_v isBox_ref e_dnil e_dk e_ek e_finB vcOps_vc1 e_dcons e_tq e_ekt e_tearly e_talt e_dearly look_nil look_c proj_nil proj_c looks_nil looks_c zip_nil zip_c val_tmp val_const val_func slv_v slv_box slv_ref slot_tmp slot_const slot_func slotL_v slotL_box slotL_ref put_some put_none updBox_c boxSet_box gd_eq slotVals_nil slotVals_c slotVals_b boxV_box boxOn_box slotsOn_nil slotsOn_c slotsOn_b resV_one resV_two vals_nil vals_c allOn_nil allOn_c partOn_nil partOn_c partVals_nil partVals_c fits_nil fits_c fillL_nil fillL_c mkv_one mkv_agg cellsV_agg cellsV_int cellsV_bool cellsV_slice cellsV_string cellsV_pointer cellsV_func cellsV_nilf cellsV_map one'_nil one'_c oc_int oc_bool oc_slice oc_string oc_pointer oc_func oc_nilf oc_map setC_eq iv_add iv_sub iv_mul iv_eql iv_neq iv_lss iv_leq iv_gtr iv_geq iok_add iok_sub iok_mul iok_eql iok_neq iok_lss iok_leq iok_gtr iok_geq pickV_bool args0_nil args0_c bnd_none bnd_some imp_bt imp_bf imp_ebt imp_ebf imp_eb1 imp_np imp_pp beq_tt beq_tf beq_ft beq_ff cond_or cond_and e_round e_meet Int.le_refl Int.toNat_zero decide_true decide_false Bool.or_false Bool.false_or Bool.true_or Bool.or_true Bool.and_false Bool.false_and Bool.bne_false Bool.bne_true beq_iff_eq Int.cast_ofNat_Int not_false_eq_true not_true_eq_false false_and and_false false_implies true_implies true_and and_true Bool.true_and Bool.and_true Bool.not_true Bool.not_false forall_const implies_true List.take_zero List.drop_zero List.take_succ_cons List.drop_succ_cons List.take_nil List.drop_nil List.length_cons List.length_nil List.nil_append List.append_nil List.cons_append Int.toNat_natCast decide_eq_true_eq decide_eq_false_iff_not cond_true cond_false and_self List.getElem?_cons_zero List.getElem?_cons_succ List.set_cons_zero List.set_cons_succ Option.some.injEq exists_eq_left' Nat.zero_add Nat.add_zero Nat.mul_one imp_self true_or or_true or_false false_or Bool.or_eq_true Bool.or_eq_false_iff Bool.and_eq_true Bool.and_eq_false_iff Bool.not_eq_true' Bool.not_eq_false'

def sv (s : Sy) : Value := .agg #[.bool s.t, .int .i64 s.n]
theorem sy_fields : (Try.prog.fieldsOf 39).toList.map (fun f => (f.name != "_", f.type, f.offset)) = [(true, 4, 0), (true, 3, 1)] := by kernel_rfl
theorem two_fields {fs : List Field} {a b : TypeId} {n m : Nat} (h : fs.map (fun f => (f.name != "_", f.type, f.offset)) = [(true, a, n), (true, b, m)]) : ∃ f g, fs = [f, g] ∧ f.name ≠ "_" ∧ g.name ≠ "_" ∧ f.type = a ∧ f.offset = n ∧ g.type = b ∧ g.offset = m := by
  have hl := congrArg List.length h
  simp at hl
  obtain ⟨f, g, rfl⟩ : ∃ f g, fs = [f, g] := by
    cases fs with
    | nil => simp at hl
    | cons f r =>
      cases r with
      | nil => simp at hl
      | cons g r =>
        cases r with
        | nil => exact ⟨f, g, rfl⟩
        | cons _ _ => simp at hl
  simp only [List.map_cons, List.map_nil, List.cons.injEq, Prod.mk.injEq, bne_iff_ne, ne_eq, and_true] at h
  exact ⟨f, g, rfl, h.1.1, h.2.1, h.1.2.1, h.1.2.2, h.2.2.1, h.2.2.2⟩
theorem qr_neqsy (x y : Sy) (Γ : Ctx) (ox oy : Operand) : QR Try.prog (.bin .neq 39 ox oy) [sv x, sv y] Γ (.bool (!decide (x = y))) := by
  intro w _
  obtain ⟨f, g, hf, n1, n2, t1, o1, t2, o2⟩ := two_fields sy_fields
  have h0 : Try.prog.underlying 39 = some (.struct (Try.prog.fieldsOf 39)) := by kernel_rfl
  have h1 : Try.prog.stoodInHeld 39 = false := by kernel_rfl
  have h2 : Try.prog.eqGuardType Try.prog.depth 39 = false := by kernel_rfl
  have h3 : Try.prog.underlying 4 = some .bool := by kernel_rfl
  have h4 : Try.prog.underlying 3 = some (.int .i64) := by kernel_rfl
  have k3 : Try.prog.plainKey 4 = true := by kernel_rfl
  have k4 : Try.prog.plainKey 3 = true := by kernel_rfl
  have p1 : ∀ (t : Bool) (n : Int), (part 4 #[.bool t, .int .i64 n] 0).run Try.prog w = .ok (.bool t) w := fun t n => run_part_plain w k3 (by simp)
  have p2 : ∀ (t : Bool) (n : Int), (part 3 #[.bool t, .int .i64 n] 1).run Try.prog w = .ok (.int .i64 n) w := fun t n => run_part_plain w k4 (by simp)
  simp only [qsem, sv, Sem.run_bind]
  rw [run_eqGuard_agg w .neq 39 ox oy _ _ h2]
  simp only [Result.andThen_ok]
  rw [run_neq_struct, run_equalIn_agg w 9999 39 _ _ h0 h1, hf]
  simp only [Op.eqFields, if_pos n1, if_pos n2, t1, t2, o1, o2, Sem.run_bind, p1, p2, Result.andThen_ok, run_equalIn_bool w 9998 4 _ _ h3, run_equalIn_int w 9998 3 _ _ _ _ h4]
  obtain ⟨xt, xn⟩ := x
  obtain ⟨yt, yn⟩ := y
  by_cases e1 : xt = yt <;> by_cases e2 : xn = yn <;> simp [e1, e2, Op.eqFields, p2, run_equalIn_int w 9998 3 .i64 .i64 _ _ h4]
theorem equal_sy {Γr : Ctx} {A B : Option Addr} {c d : Nat} {xs ys : List Sy} (hx : SlOk (lk Γr) A c xs) (hy : SlOk (lk Γr) B d ys) :
    Ret Try.prog 64 [.slice A xs.length c, .slice B ys.length d] Γr [] (fun v Γ => Γ = [] ∧ v = .bool (decide (xs = ys))) := by
  generalize hR : (fun v Γ => Γ = [] ∧ v = _) = R
  refine ret_of_vc tr64 (Nat.le_of_ble_eq_true rfl) ?_
  have h1 := hx.short
  have h2 := hy.short
  simp -implicitDefEqProofs only [S64, S64_0, go_sem, Nat.reduceBEq, Nat.reduceAdd, Nat.reduceSub, Nat.reduceMul, Nat.reduceLeDiff, reduceCtorEq, ↓reduceIte, Int.reduceLT, Int.reduceLE, Int.reduceEq, Int.reduceNe]
  refine ⟨fun hne => Up.here ?_, fun heq => ?_⟩
  · subst hR
    refine ⟨rfl, ?_⟩
    have : xs ≠ ys := fun e => by subst e; exact hne rfl
    simp [this]
  have hl : xs.length = ys.length := by omega
  refine s_loop (fun f vs Γ => Γ = [] ∧ ∃ k : Nat, vs = [.v true (.int .i64 k)] ∧ k + f = xs.length ∧ xs.take k = ys.take k) xs.length (Up.here ⟨rfl, 0, rfl, by omega, by simp⟩) ?_
  rintro f vs Γ ⟨rfl, k, rfl, hkf, htk⟩
  simp -implicitDefEqProofs only [S64_1, go_sem, Nat.reduceBEq, Nat.reduceAdd, Nat.reduceSub, Nat.reduceMul, Nat.reduceLeDiff, reduceCtorEq, ↓reduceIte, Int.reduceLT, Int.reduceLE, Int.reduceEq, Int.reduceNe]
  refine ⟨fun hlt => ?_, fun hge => ?_⟩
  · have hk : k < xs.length := by omega
    have hk' : k < ys.length := by omega
    obtain ⟨b, o, hA, hc1⟩ := hx.sy hk
    obtain ⟨b', o', hB, hc2⟩ := hy.sy hk'
    refine s_idx hA (by omega) (by omega) ?_
    simp -implicitDefEqProofs only [go_sem, Nat.reduceBEq, Nat.reduceAdd, Nat.reduceSub, Nat.reduceMul, Nat.reduceLeDiff, reduceCtorEq, ↓reduceIte, Int.reduceLT, Int.reduceLE, Int.reduceEq, Int.reduceNe]
    refine s_ld0 (hc1 _ (Mem.le.refl _)) (by simp) (by simp) ?_
    simp -implicitDefEqProofs only [go_sem, Nat.reduceBEq, Nat.reduceAdd, Nat.reduceSub, Nat.reduceMul, Nat.reduceLeDiff, reduceCtorEq, ↓reduceIte, Int.reduceLT, Int.reduceLE, Int.reduceEq, Int.reduceNe]
    refine s_idx hB (by omega) (by omega) ?_
    simp -implicitDefEqProofs only [go_sem, Nat.reduceBEq, Nat.reduceAdd, Nat.reduceSub, Nat.reduceMul, Nat.reduceLeDiff, reduceCtorEq, ↓reduceIte, Int.reduceLT, Int.reduceLE, Int.reduceEq, Int.reduceNe]
    refine s_ld0 (hc2 _ (Mem.le.refl _)) (by simp) (by simp) ?_
    simp -implicitDefEqProofs only [go_sem, Nat.reduceBEq, Nat.reduceAdd, Nat.reduceSub, Nat.reduceMul, Nat.reduceLeDiff, reduceCtorEq, ↓reduceIte, Int.reduceLT, Int.reduceLE, Int.reduceEq, Int.reduceNe]
    refine s_q trivial (qr_neqsy xs[k] ys[k] _ _ _) ?_
    simp -implicitDefEqProofs only [go_sem, Nat.reduceBEq, Nat.reduceAdd, Nat.reduceSub, Nat.reduceMul, Nat.reduceLeDiff, reduceCtorEq, ↓reduceIte, Int.reduceLT, Int.reduceLE, Int.reduceEq, Int.reduceNe]
    refine ⟨fun hne => Up.here ?_, fun heq => ?_⟩
    · subst hR
      refine ⟨rfl, ?_⟩
      have : xs ≠ ys := fun e => by subst e; simp at hne
      simp [this]
    · simp (disch := omega) only [wrap_id]
      exact ⟨f - 1, by omega, Up.here ⟨rfl, k + 1, rfl, by omega, take_eq_succ hk hk' htk (by simpa using heq)⟩⟩
  · have hk : k = xs.length := by omega
    refine Up.here ?_
    subst hR
    refine ⟨rfl, ?_⟩
    have : xs = ys := by
      have := htk
      rw [hk, List.take_length] at this
      rw [this, hl, List.take_length]
    simp [this]
theorem ru_eq {x y : Ru} : x = y ↔ x.l = y.l ∧ x.r = y.r := by cases x; cases y; simp
theorem rule_eq {Γr : Ctx} {A B : Option Addr} {c d : Nat} {x y : Ru} (hx : SlOk (lk Γr) A c x.r) (hy : SlOk (lk Γr) B d y.r) :
    Ret Try.prog 63 [.agg #[.int .i64 x.l, .slice A x.r.length c], .agg #[.int .i64 y.l, .slice B y.r.length d]] Γr [] (fun v Γ => Γ = [] ∧ v = .bool (decide (x = y))) := by
  generalize hR : (fun v Γ => Γ = [] ∧ v = _) = R
  refine ret_of_vc tr63 (Nat.le_of_ble_eq_true rfl) ?_
  simp -implicitDefEqProofs only [S63, S63_0, go_sem, Nat.reduceBEq, Nat.reduceAdd, Nat.reduceSub, Nat.reduceMul, Nat.reduceLeDiff, reduceCtorEq, ↓reduceIte, Int.reduceLT, Int.reduceLE, Int.reduceEq, Int.reduceNe]
  intro b0 b1
  by_cases e : x.l = y.l
  · refine ⟨fun _ => ⟨e, ?_⟩, fun h => by simp [e] at h⟩
    have e1 : (decide (x.l = y.l)) = true := decide_eq_true e
    simp -implicitDefEqProofs only [e1, go_sem, Nat.reduceBEq, Nat.reduceAdd, Nat.reduceSub, Nat.reduceMul, Nat.reduceLeDiff, reduceCtorEq, ↓reduceIte, Int.reduceLT, Int.reduceLE, Int.reduceEq, Int.reduceNe]
    refine CallVC.read (equal_sy hx hy) ?_
    rintro v Γ' ⟨rfl, rfl⟩
    simp -implicitDefEqProofs only [go_sem, Nat.reduceBEq, Nat.reduceAdd, Nat.reduceSub, Nat.reduceMul, Nat.reduceLeDiff, reduceCtorEq, ↓reduceIte, Int.reduceLT, Int.reduceLE, Int.reduceEq, Int.reduceNe]
    refine Up.here ?_
    subst hR
    refine ⟨rfl, ?_⟩
    by_cases e2 : x.r = y.r <;> simp [ru_eq, e, e2, pickV]
  · refine ⟨fun h => absurd h e, fun _ => ⟨.bool false, fun h => e h, Up.here ?_⟩⟩
    subst hR
    refine ⟨rfl, ?_⟩
    simp [ru_eq, e, pickV]
theorem equalFunc_ru {Γr : Ctx} {A B : Option Addr} {c d : Nat} {xs ys : List Ru} (hx : SlOk (lk Γr) A c xs) (hy : SlOk (lk Γr) B d ys) :
    Ret Try.prog 62 [.slice A xs.length c, .slice B ys.length d, .func (.func 63) #[] #[]] Γr [] (fun v Γ => Γ = [] ∧ v = .bool (decide (xs = ys))) := by
  generalize hR : (fun v Γ => Γ = [] ∧ v = _) = R
  refine ret_of_vc tr62 (Nat.le_of_ble_eq_true rfl) ?_
  have h1 := hx.short
  have h2 := hy.short
  simp -implicitDefEqProofs only [S62, S62_0, go_sem, Nat.reduceBEq, Nat.reduceAdd, Nat.reduceSub, Nat.reduceMul, Nat.reduceLeDiff, reduceCtorEq, ↓reduceIte, Int.reduceLT, Int.reduceLE, Int.reduceEq, Int.reduceNe]
  refine ⟨fun hne => Up.here ?_, fun heq => ?_⟩
  · subst hR
    refine ⟨rfl, ?_⟩
    have : xs ≠ ys := fun e => by subst e; exact hne rfl
    simp [this]
  have hl : xs.length = ys.length := by omega
  refine s_loop (fun f vs Γ => Γ = [] ∧ ∃ k : Nat, vs = [.v true (.int .i64 k)] ∧ k + f = xs.length ∧ xs.take k = ys.take k) xs.length (Up.here ⟨rfl, 0, rfl, by omega, by simp⟩) ?_
  rintro f vs Γ ⟨rfl, k, rfl, hkf, htk⟩
  simp -implicitDefEqProofs only [S62_1, go_sem, Nat.reduceBEq, Nat.reduceAdd, Nat.reduceSub, Nat.reduceMul, Nat.reduceLeDiff, reduceCtorEq, ↓reduceIte, Int.reduceLT, Int.reduceLE, Int.reduceEq, Int.reduceNe]
  refine ⟨fun hlt => ?_, fun hge => ?_⟩
  · have hk : k < xs.length := by omega
    have hk' : k < ys.length := by omega
    obtain ⟨b, o, hA, A1, c1, hs1, hc1⟩ := hx.ru hk
    obtain ⟨b', o', hB, A2, c2, hs2, hc2⟩ := hy.ru hk'
    refine s_idx hA (by omega) (by omega) ?_
    simp -implicitDefEqProofs only [go_sem, Nat.reduceBEq, Nat.reduceAdd, Nat.reduceSub, Nat.reduceMul, Nat.reduceLeDiff, reduceCtorEq, ↓reduceIte, Int.reduceLT, Int.reduceLE, Int.reduceEq, Int.reduceNe]
    refine s_ld0 (hc1 _ (Mem.le.refl _)) (by simp) (by simp) ?_
    simp -implicitDefEqProofs only [go_sem, Nat.reduceBEq, Nat.reduceAdd, Nat.reduceSub, Nat.reduceMul, Nat.reduceLeDiff, reduceCtorEq, ↓reduceIte, Int.reduceLT, Int.reduceLE, Int.reduceEq, Int.reduceNe]
    intro b3
    refine s_idx hB (by omega) (by omega) ?_
    simp -implicitDefEqProofs only [go_sem, Nat.reduceBEq, Nat.reduceAdd, Nat.reduceSub, Nat.reduceMul, Nat.reduceLeDiff, reduceCtorEq, ↓reduceIte, Int.reduceLT, Int.reduceLE, Int.reduceEq, Int.reduceNe]
    refine s_ld0 (hc2 _ (Mem.le.refl _)) (by simp) (by simp) ?_
    simp -implicitDefEqProofs only [go_sem, Nat.reduceBEq, Nat.reduceAdd, Nat.reduceSub, Nat.reduceMul, Nat.reduceLeDiff, reduceCtorEq, ↓reduceIte, Int.reduceLT, Int.reduceLE, Int.reduceEq, Int.reduceNe]
    intro b4
    refine CallVC.read (rule_eq (x := xs[k]) (y := ys[k]) hs1 hs2) ?_
    rintro v Γ' ⟨rfl, rfl⟩
    simp -implicitDefEqProofs only [go_sem, Nat.reduceBEq, Nat.reduceAdd, Nat.reduceSub, Nat.reduceMul, Nat.reduceLeDiff, reduceCtorEq, ↓reduceIte, Int.reduceLT, Int.reduceLE, Int.reduceEq, Int.reduceNe]
    refine ⟨fun hne => Up.here ?_, fun heq => ?_⟩
    · subst hR
      refine ⟨rfl, ?_⟩
      have : xs ≠ ys := fun e => by subst e; simp at hne
      simp [this]
    · simp (disch := omega) only [wrap_id]
      exact ⟨f - 1, by omega, Up.here ⟨rfl, k + 1, rfl, by omega, take_eq_succ hk hk' htk (by simpa using heq)⟩⟩
  · have hk : k = xs.length := by omega
    refine Up.here ?_
    subst hR
    refine ⟨rfl, ?_⟩
    have : xs = ys := by
      have := htk
      rw [hk, List.take_length] at this
      rw [this, hl, List.take_length]
    simp [this]
theorem word_eq1 {Γr : Ctx} {b : Nat} {W : Option Addr} {T : TypeId} {d : Nat} {w : List Int} (hb : lk Γr b (.cells [Value.slice W w.length d].toArray T (0, 0))) (hw : SlOk (lk Γr) W d w) :
    PredW Γr (.func (.func 60) #[] #[.pointer (some ⟨b, 0, none⟩)]) (fun v => decide (v = w)) := by
  refine ⟨60, #[], #[.pointer (some ⟨b, 0, none⟩)], rfl, fun Γ A c v hΓ hv => ?_⟩
  generalize hR : (fun (v : Value) (Γ : Ctx) => Γ = [] ∧ _) = R
  refine ret_of_vc tr60 (Nat.le_of_ble_eq_true rfl) ?_
  simp -implicitDefEqProofs only [S60, S60_0, List.toList_toArray, go_sem, Nat.reduceBEq, Nat.reduceAdd, Nat.reduceSub, Nat.reduceMul, Nat.reduceLeDiff, reduceCtorEq, ↓reduceIte, Int.reduceLT, Int.reduceLE, Int.reduceEq, Int.reduceNe]
  refine s_ld (o := 0) (j := 0) (cells_lk (hΓ _ _ hb)) (by simp) (by simp) ?_
  simp -implicitDefEqProofs only [go_sem, Nat.reduceBEq, Nat.reduceAdd, Nat.reduceSub, Nat.reduceMul, Nat.reduceLeDiff, reduceCtorEq, ↓reduceIte, Int.reduceLT, Int.reduceLE, Int.reduceEq, Int.reduceNe]
  refine CallVC.read (slices_equal (hv.mono (lk_r _ _)) (hw.mono (hΓ.trans (lk_r _ _)))) ?_
  rintro v Γ' ⟨rfl, rfl⟩
  simp -implicitDefEqProofs only [go_sem, Nat.reduceBEq, Nat.reduceAdd, Nat.reduceSub, Nat.reduceMul, Nat.reduceLeDiff, reduceCtorEq, ↓reduceIte, Int.reduceLT, Int.reduceLE, Int.reduceEq, Int.reduceNe]
  refine Up.here ?_
  subst hR
  exact ⟨rfl, rfl⟩
end Go.Proofs.Ytniobbepliknmaa.V
/- Derivations of words, and what fixpoints over them are: the plain law; no condition. -/
namespace Go.Proofs.Ytniobbepliknmaa.V
open Go
set_option linter.unusedVariables false
set_option linter.unusedSimpArgs false

/-- a list of symbols derives a word; a terminal n stands as f n -/
inductive DerF {α : Type} (f : Int → α) (rs : List Ru) : List Sy → List α → Prop
  | nil : DerF f rs [] []
  | term {l : List Sy} {w : List α} (n : Int) (h : DerF f rs l w) : DerF f rs (⟨true, n⟩ :: l) (f n :: w)
  | non {l : List Sy} {u w : List α} (r : Ru) (hr : r ∈ rs) (hu : DerF f rs r.r u) (hw : DerF f rs l w) : DerF f rs (⟨false, r.l⟩ :: l) (u ++ w)
/-- a nonterminal derives a word -/
def DerN {α : Type} (f : Int → α) (rs : List Ru) (a : Int) (w : List α) : Prop := ∃ r ∈ rs, r.l = a ∧ DerF f rs r.r w
theorem DerF.map {α : Type} (f : Int → α) {rs : List Ru} {l : List Sy} {w : List Int} (h : DerF id rs l w) : DerF f rs l (w.map f) := by
  induction h with
  | nil => exact .nil
  | term n _ ih => exact .term n ih
  | non r hr _ _ ih1 ih2 => rw [List.map_append]; exact .non r hr ih1 ih2
theorem DerF.back {α : Type} {f : Int → α} {rs : List Ru} {l : List Sy} {w : List α} (h : DerF f rs l w) : ∃ v, w = v.map f ∧ DerF id rs l v := by
  induction h with
  | nil => exact ⟨[], rfl, .nil⟩
  | term n _ ih => obtain ⟨v, rfl, h⟩ := ih; exact ⟨n :: v, rfl, .term n h⟩
  | non r hr _ _ ih1 ih2 => obtain ⟨v1, rfl, h1⟩ := ih1; obtain ⟨v2, rfl, h2⟩ := ih2; exact ⟨v1 ++ v2, by simp, .non r hr h1 h2⟩
theorem DerF.all {rs : List Ru} {p : Int → Prop} (hp : ∀ r ∈ rs, ∀ s ∈ r.r, s.t = true → p s.n) {l : List Sy} (hl : ∀ s ∈ l, s.t = true → p s.n) {w : List Int} (h : DerF id rs l w) : ∀ x ∈ w, p x := by
  induction h with
  | nil => simp
  | term n _ ih =>
    intro x hx
    rcases List.mem_cons.1 hx with hx | hx
    · rw [hx]; exact hl ⟨true, n⟩ (by simp) rfl
    · exact ih (fun s hs => hl s (by simp [hs])) x hx
  | non r hr _ _ ih1 ih2 =>
    intro x hx
    rcases List.mem_append.1 hx with hx | hx
    · exact ih1 (hp r hr) x hx
    · exact ih2 (fun s hs => hl s (by simp [hs])) x hx
theorem map_inj_on {α : Type} {f : Int → α} {p : Int → Prop} (hf : ∀ x y, p x → p y → f x = f y → x = y) : ∀ {u v : List Int}, (∀ x ∈ u, p x) → (∀ x ∈ v, p x) → u.map f = v.map f → u = v
  | [], [], _, _, _ => rfl
  | [], _ :: _, _, _, h => by simp at h
  | _ :: _, [], _, _, h => by simp at h
  | x :: u, y :: v, hu, hv, h => by
    simp only [List.map_cons, List.cons.injEq] at h
    rw [hf x y (hu x (by simp)) (hv y (by simp)) h.1, map_inj_on hf (fun z hz => hu z (by simp [hz])) (fun z hz => hv z (by simp [hz])) h.2]
theorem derN_map {α : Type} {f : Int → α} {p : Int → Prop} (hf : ∀ x y, p x → p y → f x = f y → x = y) {rs : List Ru} (hp : ∀ r ∈ rs, ∀ s ∈ r.r, s.t = true → p s.n) {a : Int} {w : List Int} (hw : ∀ x ∈ w, p x) : DerN f rs a (w.map f) ↔ DerN id rs a w := by
  constructor
  · rintro ⟨r, hr, h1, h2⟩
    obtain ⟨v, hv, hd⟩ := h2.back
    have := map_inj_on hf hw (hd.all hp (hp r hr)) hv
    subst this
    exact ⟨r, hr, h1, hd⟩
  · rintro ⟨r, hr, h1, h2⟩
    exact ⟨r, hr, h1, h2.map f⟩

/-! words put together out of sets of words -/
def SyC {α : Type} (f : Int → α) (E : Int → List α → Prop) (s : Sy) (w : List α) : Prop := if s.t = true then w = [f s.n] else E s.n w
def Cmb {α : Type} (f : Int → α) (E : Int → List α → Prop) : List Sy → List α → Prop
  | [], w => w = []
  | s :: l, w => ∃ u v, w = u ++ v ∧ SyC f E s u ∧ Cmb f E l v
theorem cmb_snoc {α : Type} {f : Int → α} {E : Int → List α → Prop} {s : Sy} : ∀ {l : List Sy} {w : List α}, Cmb f E (l ++ [s]) w ↔ ∃ u v, w = u ++ v ∧ Cmb f E l u ∧ SyC f E s v
  | [], w => by
    constructor
    · rintro ⟨u, v, rfl, h1, h2⟩
      have h2 : v = [] := h2
      subst h2
      exact ⟨[], u, by simp, rfl, h1⟩
    · rintro ⟨u, v, rfl, h1, h2⟩
      have h1 : u = [] := h1
      subst h1
      exact ⟨v, [], by simp, h2, rfl⟩
  | t :: l, w => by
    constructor
    · rintro ⟨u, v, rfl, h1, h2⟩
      obtain ⟨v1, v2, rfl, h3, h4⟩ := cmb_snoc.1 h2
      exact ⟨u ++ v1, v2, by simp, ⟨u, v1, rfl, h1, h3⟩, h4⟩
    · rintro ⟨u, v, rfl, ⟨u1, u2, rfl, h1, h2⟩, h3⟩
      exact ⟨u1, u2 ++ v, by simp, h1, cmb_snoc.2 ⟨u2, v, rfl, h2, h3⟩⟩
theorem cmb_sound {α : Type} {f : Int → α} {rs : List Ru} {E : Int → List α → Prop} (hE : ∀ a w, E a w → DerN f rs a w) : ∀ {l : List Sy} {w : List α}, Cmb f E l w → DerF f rs l w
  | [], w, h => by
    have h : w = [] := h
    subst h
    exact .nil
  | ⟨true, n⟩ :: l, w, h => by
    obtain ⟨u, v, rfl, h1, h2⟩ := h
    have h1 : u = [f n] := h1
    subst h1
    exact .term n (cmb_sound hE h2)
  | ⟨false, a⟩ :: l, w, h => by
    obtain ⟨u, v, rfl, h1, h2⟩ := h
    have h1 : E a u := by simpa [SyC] using h1
    obtain ⟨r, hr, rfl, hd⟩ := hE _ _ h1
    exact .non r hr hd (cmb_sound hE h2)
theorem cmb_all {α : Type} {f : Int → α} {rs : List Ru} {E : Int → List α → Prop} {n : Nat} (hE : ∀ r ∈ rs, ∀ w, Cmb f E r.r w → w.length ≤ n → E r.l w) {l : List Sy} {w : List α} (h : DerF f rs l w) : w.length ≤ n → Cmb f E l w := by
  induction h with
  | nil => exact fun _ => rfl
  | term m _ ih =>
    intro hn
    simp only [List.length_cons] at hn
    exact ⟨[f m], _, rfl, rfl, ih (by omega)⟩
  | non r hr _ _ ih1 ih2 =>
    intro hn
    rw [List.length_append] at hn
    refine ⟨_, _, rfl, ?_, ih2 (by omega)⟩
    simp only [SyC]
    exact hE r hr _ (ih1 (by omega)) (by omega)
theorem SyC.mono {α : Type} {f : Int → α} {E E' : Int → List α → Prop} (h : ∀ a w, E a w → E' a w) {s : Sy} {w : List α} (q : SyC f E s w) : SyC f E' s w := by
  unfold SyC at *
  split
  · rename_i e; rw [if_pos e] at q; exact q
  · rename_i e; rw [if_neg e] at q; exact h _ _ q

/-! places in a word -/
def Stp (E : Int → Nat → Nat → Prop) (w : List Int) (s : Sy) (i k : Nat) : Prop := if s.t = true then w[i]? = some s.n ∧ k = i + 1 else E s.n i k
def Rch (E : Int → Nat → Nat → Prop) (w : List Int) : List Sy → Nat → Nat → Prop
  | [], i, j => j = i
  | s :: l, i, j => ∃ k, Stp E w s i k ∧ Rch E w l k j
theorem rch_snoc {E : Int → Nat → Nat → Prop} {w : List Int} {s : Sy} : ∀ {l : List Sy} {i j : Nat}, Rch E w (l ++ [s]) i j ↔ ∃ k, Rch E w l i k ∧ Stp E w s k j
  | [], i, j => by
    constructor
    · rintro ⟨k, h1, h2⟩
      have h2 : j = k := h2
      subst h2
      exact ⟨i, rfl, h1⟩
    · rintro ⟨k, h1, h2⟩
      have h1 : k = i := h1
      subst h1
      exact ⟨j, h2, rfl⟩
  | t :: l, i, j => by
    constructor
    · rintro ⟨k, h1, h2⟩
      obtain ⟨m, h3, h4⟩ := rch_snoc.1 h2
      exact ⟨m, ⟨k, h1, h3⟩, h4⟩
    · rintro ⟨k, ⟨m, h1, h2⟩, h3⟩
      exact ⟨m, h1, rch_snoc.2 ⟨k, h2, h3⟩⟩
/-- a nonterminal derives a part that begins at i and ends at j -/
def Prt (rs : List Ru) (w : List Int) (a : Int) (i j : Nat) : Prop := ∃ u, DerN id rs a u ∧ u <+: w.drop i ∧ j = i + u.length
def PrtL (rs : List Ru) (w : List Int) (l : List Sy) (i j : Nat) : Prop := ∃ u, DerF id rs l u ∧ u <+: w.drop i ∧ j = i + u.length
theorem pre_app {w u v : List Int} {i : Nat} : u ++ v <+: w.drop i ↔ u <+: w.drop i ∧ v <+: w.drop (i + u.length) := by
  constructor
  · rintro ⟨t, h⟩
    refine ⟨⟨v ++ t, by rw [← h]; simp⟩, ⟨t, ?_⟩⟩
    have := congrArg (List.drop u.length) h
    rw [List.append_assoc, List.drop_left, List.drop_drop] at this
    exact this
  · rintro ⟨⟨t, h1⟩, ⟨t', h2⟩⟩
    refine ⟨t', ?_⟩
    rw [← List.drop_drop, ← h1, List.drop_left] at h2
    rw [List.append_assoc, h2, h1]
theorem pre_one {w : List Int} {i : Nat} {x : Int} : [x] <+: w.drop i ↔ w[i]? = some x := by
  constructor
  · rintro ⟨t, h⟩
    have := congrArg (·[0]?) h
    simpa using this.symm
  · intro h
    obtain ⟨hl, he⟩ := List.getElem?_eq_some_iff.1 h
    exact ⟨w.drop (i + 1), by rw [List.drop_eq_getElem_cons hl, he]; rfl⟩
theorem rch_sound {rs : List Ru} {w : List Int} {E : Int → Nat → Nat → Prop} (hE : ∀ a i j, E a i j → Prt rs w a i j) : ∀ {l : List Sy} {i j : Nat}, Rch E w l i j → PrtL rs w l i j
  | [], i, j, h => by
    have h : j = i := h
    subst h
    exact ⟨[], .nil, ⟨_, rfl⟩, rfl⟩
  | ⟨true, n⟩ :: l, i, j, h => by
    obtain ⟨k, h1, h2⟩ := h
    have h9 : w[i]? = some n ∧ k = i + 1 := by simpa [Stp] using h1
    obtain ⟨h9, rfl⟩ := h9
    obtain ⟨u, h3, h4, rfl⟩ := rch_sound hE h2
    exact ⟨n :: u, .term n h3, (pre_app (u := [n])).2 ⟨pre_one.2 h9, h4⟩, by simp; omega⟩
  | ⟨false, a⟩ :: l, i, j, h => by
    obtain ⟨k, h1, h2⟩ := h
    have h1 : E a i k := by simpa [Stp] using h1
    obtain ⟨u, ⟨r, hr, rfl, hd⟩, h4, rfl⟩ := hE _ _ _ h1
    obtain ⟨v, h5, h6, rfl⟩ := rch_sound hE h2
    exact ⟨u ++ v, .non r hr hd h5, pre_app.2 ⟨h4, h6⟩, by simp; omega⟩
theorem rch_all {rs : List Ru} {w : List Int} {E : Int → Nat → Nat → Prop} (hE : ∀ r ∈ rs, ∀ i j, i ≤ w.length → Rch E w r.r i j → E r.l i j) {l : List Sy} {u : List Int} (h : DerF id rs l u) : ∀ i, i ≤ w.length → u <+: w.drop i → Rch E w l i (i + u.length) := by
  induction h with
  | nil => exact fun _ _ _ => rfl
  | term m _ ih =>
    intro i hi hp
    obtain ⟨h1, h2⟩ := (pre_app (u := [m])).1 hp
    have h1 := pre_one.1 h1
    have hi' := (List.getElem?_eq_some_iff.1 h1).1
    refine ⟨i + 1, by simp [Stp, h1], ?_⟩
    have := ih (i + 1) (by omega) h2
    simpa [Nat.add_assoc, Nat.add_comm 1] using this
  | @non l u v r hr _ _ ih1 ih2 =>
    intro i hi hp
    obtain ⟨h1, h2⟩ := pre_app.1 hp
    have hl : i + u.length ≤ w.length := by
      have := h1.length_le
      rw [List.length_drop] at this
      omega
    refine ⟨i + u.length, by simpa [Stp] using hE r hr i _ hi (ih1 i hi h1), ?_⟩
    have := ih2 (i + u.length) hl h2
    simpa [Nat.add_assoc] using this
theorem prt_iff {rs : List Ru} {w : List Int} {E : Int → Nat → Nat → Prop} (hs : ∀ a i j, E a i j → Prt rs w a i j) (hE : ∀ r ∈ rs, ∀ i j, i ≤ w.length → Rch E w r.r i j → E r.l i j) (a : Int) (i j : Nat) (hi : i ≤ w.length) : E a i j ↔ Prt rs w a i j := by
  refine ⟨hs a i j, ?_⟩
  rintro ⟨u, ⟨r, hr, rfl, hd⟩, h1, rfl⟩
  exact hE r hr _ _ hi (rch_all hE hd i hi h1)
theorem prt_whole {rs : List Ru} {w : List Int} {a : Int} : Prt rs w a 0 w.length ↔ DerN id rs a w := by
  constructor
  · rintro ⟨u, h1, h2, h3⟩
    rw [List.drop_zero] at h2
    have : u = w := h2.eq_of_length (by omega)
    subst this
    exact h1
  · exact fun h => ⟨w, h, by simp, by omega⟩
theorem prt_le {rs : List Ru} {w : List Int} {a : Int} {i j : Nat} (hi : i ≤ w.length) (h : Prt rs w a i j) : i ≤ j ∧ j ≤ w.length := by
  obtain ⟨u, _, h2, rfl⟩ := h
  have := h2.length_le
  rw [List.length_drop] at this
  omega
theorem prtL_le {rs : List Ru} {w : List Int} {l : List Sy} {i j : Nat} (hi : i ≤ w.length) (h : PrtL rs w l i j) : i ≤ j ∧ j ≤ w.length := by
  obtain ⟨u, _, h2, rfl⟩ := h
  have := h2.length_le
  rw [List.length_drop] at this
  omega
theorem Stp.mono {E E' : Int → Nat → Nat → Prop} (h : ∀ a i j, E a i j → E' a i j) {w : List Int} {s : Sy} {i j : Nat} (q : Stp E w s i j) : Stp E' w s i j := by
  unfold Stp at *
  split
  · rename_i e; rw [if_pos e] at q; exact q
  · rename_i e; rw [if_neg e] at q; exact h _ _ _ q
theorem Rch.mono {E E' : Int → Nat → Nat → Prop} (h : ∀ a i j, E a i j → E' a i j) {w : List Int} : ∀ {l : List Sy} {i j : Nat}, Rch E w l i j → Rch E' w l i j
  | [], _, _, q => q
  | _ :: _, _, _, ⟨k, h1, h2⟩ => ⟨k, h1.mono h, Rch.mono h h2⟩
end Go.Proofs.Ytniobbepliknmaa.V
/- Small numbers as sets of bits; no condition. -/
namespace Go.Proofs.Ytniobbepliknmaa.V
open Go
set_option linter.unusedVariables false
set_option linter.unusedSimpArgs false

def Uns (k : IntKind) : Prop := k = .u32 ∨ k = .u64
theorem wrapU {k : IntKind} (hk : Uns k) {n : Nat} (h : n < 4294967296) : k.wrap (n : Int) = (n : Int) := by
  rcases hk with rfl | rfl
  · rw [IntKind.wrap_u32]; omega
  · rw [IntKind.wrap_u64]; omega
theorem ofIntU {k : IntKind} (hk : Uns k) {n : Nat} (h : n < 4294967296) : (BitVec.ofInt k.bits (n : Int)).toNat = n := by
  rw [BitVec.ofInt_natCast, BitVec.toNat_ofNat]
  apply Nat.mod_eq_of_lt
  rcases hk with rfl | rfl <;> simp [IntKind.bits] <;> omega
theorem lt_of_bits {z m : Nat} (h : ∀ i, m ≤ i → z.testBit i = false) : z < 2 ^ m := by
  apply Nat.lt_pow_two_of_testBit
  exact h
theorem bit_and {k : IntKind} (hk : Uns k) {x y : Nat} (hx : x < 4294967296) (hy : y < 4294967296) : fnV (.bits .and) [.int k x, .int k y] = some (.int k ((x &&& y : Nat) : Int)) := by
  have hb : (k == k) = true := by cases k <;> rfl
  simp only [fnV, hb, cond_true]
  rw [BitVec.toNat_and, ofIntU hk hx, ofIntU hk hy, wrapU hk]
  exact Nat.lt_of_le_of_lt Nat.and_le_left hx
theorem bit_or {k : IntKind} (hk : Uns k) {x y : Nat} (hx : x < 4294967296) (hy : y < 4294967296) : fnV (.bits .or) [.int k x, .int k y] = some (.int k ((x ||| y : Nat) : Int)) := by
  have hb : (k == k) = true := by cases k <;> rfl
  simp only [fnV, hb, cond_true]
  rw [BitVec.toNat_or, ofIntU hk hx, ofIntU hk hy, wrapU hk]
  exact Nat.or_lt_two_pow (n := 32) hx hy
def bdiff (x y : Nat) : Nat := x &&& (4294967295 - y)
theorem bdiff_test {x y : Nat} (hx : x < 4294967296) (hy : y < 4294967296) (i : Nat) : (bdiff x y).testBit i = (x.testBit i && !y.testBit i) := by
  unfold bdiff
  rw [Nat.testBit_and]
  have h := Nat.testBit_two_pow_sub_succ (n := 32) (x := y) hy i
  rw [show (2 ^ 32 : Nat) - (y + 1) = 4294967295 - y by omega] at h
  rw [h]
  by_cases hi : i < 32
  · simp [hi]
  · have : x.testBit i = false := Nat.testBit_lt_two_pow (Nat.lt_of_lt_of_le hx (Nat.pow_le_pow_right (n := 2) (i := 32) (by omega) (by omega)))
    simp [this]
theorem bit_diff {k : IntKind} (hk : Uns k) {x y : Nat} (hx : x < 4294967296) (hy : y < 4294967296) : fnV (.bits .andNot) [.int k x, .int k y] = some (.int k ((bdiff x y : Nat) : Int)) := by
  have hb : (k == k) = true := by cases k <;> rfl
  simp only [fnV, hb, cond_true]
  have : (BitVec.ofInt k.bits (x : Int) &&& ~~~(BitVec.ofInt k.bits (y : Int))).toNat = bdiff x y := by
    apply Nat.eq_of_testBit_eq
    intro i
    rw [bdiff_test hx hy, BitVec.toNat_and, Nat.testBit_and, ofIntU hk hx]
    by_cases e : x.testBit i = true
    · have hi : i < 32 := by
        apply Classical.byContradiction
        intro q
        have : x.testBit i = false := Nat.testBit_lt_two_pow (Nat.lt_of_lt_of_le hx (Nat.pow_le_pow_right (n := 2) (i := 32) (by omega) (by omega)))
        rw [this] at e
        cases e
      rw [BitVec.testBit_toNat, BitVec.getLsbD_not, ← BitVec.testBit_toNat, ofIntU hk hy]
      have : i < k.bits := by rcases hk with rfl | rfl <;> simp [IntKind.bits] <;> omega
      simp [this]
    · have e : x.testBit i = false := by simpa using e
      simp [e]
  rw [this, wrapU hk]
  exact Nat.lt_of_le_of_lt Nat.and_le_left hx
theorem bit_shl {k : IntKind} (hk : Uns k) {i : Nat} (hi : i < 32) : ishiftV .shl k 1 (i : Int) = .int k ((2 ^ i : Nat) : Int) := by
  have h1 : min i k.bits = i := by rcases hk with rfl | rfl <;> simp [IntKind.bits] <;> omega
  simp only [ishiftV, Int.toNat_natCast, h1, Int.one_mul]
  have : (2 : Int) ^ i = ((2 ^ i : Nat) : Int) := by simp
  rw [this, wrapU hk]
  exact Nat.pow_lt_pow_right (a := 2) (n := 32) (by omega) hi
theorem bit_shr {k : IntKind} (hk : Uns k) {x i : Nat} (hx : x < 4294967296) : ishiftV .shr k (x : Int) (i : Int) = .int k ((x >>> i : Nat) : Int) := by
  simp only [ishiftV, Int.toNat_natCast]
  congr 1
  have hc : (2 : Int) ^ min i k.bits = ((2 ^ min i k.bits : Nat) : Int) := by simp
  rw [hc, Int.fdiv_eq_ediv_of_nonneg _ (Int.natCast_nonneg _), Nat.shiftRight_eq_div_pow]
  rcases Nat.le_total i k.bits with h | h
  · rw [Nat.min_eq_left h]; rfl
  · rw [Nat.min_eq_right h]
    have hb : 32 ≤ k.bits := by rcases hk with rfl | rfl <;> simp [IntKind.bits]
    have h1 : x / 2 ^ k.bits = 0 := Nat.div_eq_of_lt (Nat.lt_of_lt_of_le hx (Nat.pow_le_pow_right (n := 2) (i := 32) (by omega) hb))
    have h2 : x / 2 ^ i = 0 := Nat.div_eq_of_lt (Nat.lt_of_lt_of_le hx (Nat.pow_le_pow_right (n := 2) (i := 32) (by omega) (by omega)))
    rw [h2, ← Int.natCast_ediv, h1]
theorem shr_and (x i : Nat) : (x >>> i) &&& 1 = (x.testBit i).toNat := by
  unfold Nat.testBit
  rw [Nat.and_comm, Nat.one_and_eq_mod_two]
  rcases Nat.mod_two_eq_zero_or_one (x >>> i) with h | h <;> simp [h]
/-- x >> i & 1 -/
theorem bit_get {k : IntKind} (hk : Uns k) {x i : Nat} (hx : x < 4294967296) : fnV (.bits .and) [.int k ((x >>> i : Nat) : Int), .int k 1] = some (.int k (((x.testBit i).toNat : Nat) : Int)) := by
  have := bit_and hk (x := x >>> i) (y := 1) (by
    rw [Nat.shiftRight_eq_div_pow]
    exact Nat.lt_of_le_of_lt (Nat.div_le_self _ _) hx) (by omega)
  rw [shr_and] at this
  exact this
theorem bit_zero {x : Nat} : x = 0 ↔ ∀ i, x.testBit i = false := by
  constructor
  · rintro rfl i; simp
  · intro h; apply Nat.eq_of_testBit_eq; intro i; rw [h]; simp
theorem bdiff_zero {x y : Nat} (hx : x < 4294967296) (hy : y < 4294967296) : bdiff x y = 0 ↔ ∀ i, x.testBit i = true → y.testBit i = true := by
  rw [bit_zero]
  constructor
  · intro h i hi
    have := h i
    rw [bdiff_test hx hy, hi] at this
    simpa using this
  · intro h i
    rw [bdiff_test hx hy]
    cases e : x.testBit i
    · rfl
    · simp [h i e]
/-- words of 32 bits -/
structure U32 where
  n : Nat
structure U64 where
  n : Nat
instance : Sc U32 := ⟨fun x => .int .u32 x.n, fun _ => rfl, fun _ => rfl⟩
instance : Sc U64 := ⟨fun x => .int .u64 x.n, fun _ => rfl, fun _ => rfl⟩
end Go.Proofs.Ytniobbepliknmaa.V
/- Maps: a map as the list of its keys and values; no condition. -/
namespace Go.Proofs.Ytniobbepliknmaa.V
open Go
set_option linter.unusedVariables false
set_option linter.unusedSimpArgs false
set_option linter.unusedSectionVars false
attribute [local go_sem] e_seq e_region e_quiet e_join e_loop e_cond e_block e_exit e_ret e_skip e_fin e_kseq e_snrm e_sret e_sex e_bnrm e_bret e_bex e_rnrm e_rret e_res e_condC e_nil e_g e_mv g_mv e_pick g_pick pickC_eq e_ibin g_ibin ibinC_eq e_sbin g_sbin e_beq g_beq beqC_eq e_nilq g_nilq nilqC_sl nilqC_pt nilqC_mp e_un g_un unC_not unC_neg e_conv g_conv convC_eq e_fld g_fld fldC_ref fldC_ptr e_nilCheck g_nilCheck nilCheckC_ref nilCheckC_ptr nilCheckC_fun e_field g_field fieldC_eq e_len g_len lenC_sl lenC_str e_extract g_extract extractC_eq e_mkFunc e_build g_build e_idiv g_idiv idivC_eq e_ishift g_ishift ishiftC_eq e_idx g_idx e_idxA g_idxA e_load g_load loadC_ref loadC_ptr loadB_eq e_slc g_slc e_box boxC_loc boxC_esc e_alloc allocC_loc allocC_esc e_buildS e_store storeC_ref storeC_ptr storeB_eq e_append e_appz e_mk mkC_eq e_call callC_eq e_fn g_fn fnC_eq fnV_min' fnV_max' fnV_rune' e_q g_q e_a e_n g_call g_box g_alloc g_buildS g_store g_append g_mk g_a g_n g_dead e_dead e_callK e_drawn e_tree e_finJ e_tk e_tfin e_tno e_nbt_q e_nbt_qn e_nbt_a e_nbt_an e_nbt_fin e_early_nil e_early_t e_early_f e_nob_nil e_nob_none e_nob_some isBox_dead isBox_v isBox_ref e_dnil e_dk e_ek e_finB vcOps_vc1 e_dcons e_tq e_ekt e_tearly e_talt e_dearly look_nil look_c proj_nil proj_c looks_nil looks_c zip_nil zip_c val_tmp val_const val_func slv_v slv_box slv_ref slot_tmp slot_const slot_func slotL_v slotL_box slotL_ref put_some put_none updBox_c boxSet_box gd_eq slotVals_nil slotVals_c slotVals_b boxV_box boxOn_box slotsOn_nil slotsOn_c slotsOn_b resV_one resV_two vals_nil vals_c allOn_nil allOn_c partOn_nil partOn_c partVals_nil partVals_c fits_nil fits_c fillL_nil fillL_c mkv_one mkv_agg cellsV_agg cellsV_int cellsV_bool cellsV_slice cellsV_string cellsV_pointer cellsV_func cellsV_nilf cellsV_map one'_nil one'_c oc_int oc_bool oc_slice oc_string oc_pointer oc_func oc_nilf oc_map setC_eq iv_add iv_sub iv_mul iv_eql iv_neq iv_lss iv_leq iv_gtr iv_geq iok_add iok_sub iok_mul iok_eql iok_neq iok_lss iok_leq iok_gtr iok_geq pickV_bool args0_nil args0_c bnd_none bnd_some imp_bt imp_bf imp_ebt imp_ebf imp_eb1 imp_np imp_pp beq_tt beq_tf beq_ft beq_ff cond_or cond_and e_round e_meet Int.le_refl Int.toNat_zero decide_true decide_false Bool.or_false Bool.false_or Bool.true_or Bool.or_true Bool.and_false Bool.false_and Bool.bne_false Bool.bne_true beq_iff_eq Int.cast_ofNat_Int not_false_eq_true not_true_eq_false false_and and_false false_implies true_implies true_and and_true Bool.true_and Bool.and_true Bool.not_true Bool.not_false forall_const implies_true List.take_zero List.drop_zero List.take_succ_cons List.drop_succ_cons List.take_nil List.drop_nil List.length_cons List.length_nil List.nil_append List.append_nil List.cons_append Int.toNat_natCast decide_eq_true_eq decide_eq_false_iff_not cond_true cond_false and_self List.getElem?_cons_zero List.getElem?_cons_succ List.set_cons_zero List.set_cons_succ Option.some.injEq exists_eq_left' Nat.zero_add Nat.add_zero Nat.mul_one imp_self true_or or_true or_false false_or Bool.or_eq_true Bool.or_eq_false_iff Bool.and_eq_true Bool.and_eq_false_iff Bool.not_eq_true' Bool.not_eq_false'

theorem zero_run {P : Program} {e : TypeId} {z : Value} (h : (P.info? e).bind (·.zero) = some z) (w : World) : (zeroValue e).run P w = .ok z w := by
  obtain ⟨i, hi, hz⟩ := Option.bind_eq_some_iff.1 h
  simp [zeroValue, typeInfo, hi, hz]
/-- what a map's operations need of the keys -/
structure KT (P : Program) (k : TypeId) {α : Type} (eK : α → Value) (good : α → Prop) : Prop where
  inj : ∀ a b, eK a = eK b → a = b
  check : ∀ (w : World) (em : Bool) a, good a → (Instr.checkKey em 10000 k (eK a)).run P w = .ok () w
  find : ∀ (w : World) a, good a → ∀ es : List MapEntry, (∀ e ∈ es, ∃ b, good b ∧ e.key = eK b) →
    ((Instr.findKey k (eK a) es).run P w = .ok none w ∧ ∀ e ∈ es, e.key ≠ eK a) ∨ ∃ j e, (Instr.findKey k (eK a) es).run P w = .ok (some (j, e.val)) w ∧ es[j]? = some e ∧ e.key = eK a
  stays : ∀ (w : World) a, good a → (Instr.keyThatStays (eK a) (eK a)).run P w = .ok (eK a) w
theorem KT.of {P : Program} {k : TypeId} {α : Type} {eK : α → Value} {good : α → Prop} (K : Maps.Keyed P k) (hi : ∀ a b, eK a = eK b → a = b) (h : ∀ a, good a → ∃ l, keyOf P k (eK a) = some l) : KT P k eK good where
  inj := hi
  check w em a ha := by obtain ⟨l, hl⟩ := h a ha; exact K.check w em hl
  find w a ha es he := by
    obtain ⟨l, hl⟩ := h a ha
    exact K.find w hl es fun e hm => by obtain ⟨b, hb, q⟩ := he e hm; rw [q]; exact h b hb
  stays w a ha := by obtain ⟨l, hl⟩ := h a ha; exact K.stays w hl

section
variable {α β : Type}
/-- each entry has its own time of birth, which is past -/
def Born (es : List MapEntry) (clock : Nat) : Prop := (∀ e ∈ es, e.born < clock) ∧ (es.map (·.born)).Nodup
/-- the map b lies in memory -/
structure MapL (L : Mem) (b : Nat) (eK : α → Value) (eV : β → Value) (good : α → Prop) (l : List (α × β)) : Prop where
  nodup : (l.map (·.1)).Nodup
  good : ∀ p ∈ l, good p.1
  at' : ∃ es clock, L b (.map es clock) ∧ es.toList.map (fun e => (e.key, e.val)) = l.map (fun p => (eK p.1, eV p.2)) ∧ Born es.toList clock
theorem MapL.mono {L L' : Mem} {b : Nat} {eK : α → Value} {eV : β → Value} {good : α → Prop} {l : List (α × β)} (h : MapL L b eK eV good l) (hl : Mem.le L L') : MapL L' b eK eV good l :=
  ⟨h.nodup, h.good, let ⟨es, c, q1, q2⟩ := h.at'; ⟨es, c, hl _ _ q1, q2⟩⟩
/-- the map b is a heap's -/
def MapM (g : PH) (b : Nat) (eK : α → Value) (eV : β → Value) (good : α → Prop) (l : List (α × β)) : Prop := MapL (fun b o => g b = some o) b eK eV good l
theorem MapM.l {g : PH} {Γ : Ctx} {b : Nat} {eK : α → Value} {eV : β → Value} {good : α → Prop} {l : List (α × β)} (h : MapM g b eK eV good l) (hg : g ∈ Γ) : MapL (lk Γ) b eK eV good l :=
  MapL.mono h fun _ _ q => ⟨g, hg, q⟩
theorem MapM.mono {g g' : PH} {b : Nat} {eK : α → Value} {eV : β → Value} {good : α → Prop} {l : List (α × β)} (h : MapM g b eK eV good l) (hg : Mem.le (lk [g]) (lk [g'])) : MapM g' b eK eV good l :=
  MapL.mono h fun b o q => by obtain ⟨x, hx, q'⟩ := hg b o ⟨g, by simp, q⟩; simp at hx; subst hx; exact q'
theorem MapM.new (b : Nat) (eK : α → Value) (eV : β → Value) (good : α → Prop) : MapM (one b (.map #[] 0)) b eK eV good ([] : List (α × β)) := ⟨by simp, by simp, #[], 0, one_self _ _, rfl, by simp [Born]⟩

theorem entry_of {es : Array MapEntry} {eK : α → Value} {eV : β → Value} {l : List (α × β)} (h : es.toList.map (fun e => (e.key, e.val)) = l.map (fun p => (eK p.1, eV p.2))) {j : Nat} {e : MapEntry} (hj : es.toList[j]? = some e) : ∃ p, l[j]? = some p ∧ e.key = eK p.1 ∧ e.val = eV p.2 := by
  have h1 := congrArg (·[j]?) h
  simp only [List.getElem?_map, hj, Option.map_some] at h1
  cases hp : l[j]? with
  | none => rw [hp] at h1; simp at h1
  | some p => rw [hp] at h1; simp at h1; exact ⟨p, rfl, h1.1, h1.2⟩
theorem entry_good {L : Mem} {b : Nat} {eK : α → Value} {eV : β → Value} {good : α → Prop} {l : List (α × β)} (hm : MapL L b eK eV good l) {es : Array MapEntry} (h : es.toList.map (fun e => (e.key, e.val)) = l.map (fun p => (eK p.1, eV p.2))) : ∀ e ∈ es.toList, ∃ b, good b ∧ e.key = eK b := by
  intro e he
  obtain ⟨j, hj⟩ := List.getElem?_of_mem he
  obtain ⟨p, hp, hk, _⟩ := entry_of h hj
  exact ⟨p.1, hm.good p (List.mem_of_getElem? hp), hk⟩
theorem entry_none {es : Array MapEntry} {eK : α → Value} {eV : β → Value} {l : List (α × β)} (h : es.toList.map (fun e => (e.key, e.val)) = l.map (fun p => (eK p.1, eV p.2))) {a : α} (hn : ∀ e ∈ es.toList, e.key ≠ eK a) : a ∉ l.map (·.1) := by
  intro ha
  obtain ⟨p, hp, rfl⟩ := List.mem_map.1 ha
  have : (eK p.1, eV p.2) ∈ es.toList.map (fun e => (e.key, e.val)) := by rw [h]; exact List.mem_map.2 ⟨p, hp, rfl⟩
  obtain ⟨e, he, q⟩ := List.mem_map.1 this
  simp at q
  exact hn e he q.1

end
section
variable {α β : Type} [DecidableEq α]
def mget (l : List (α × β)) (a : α) : Option β := (l.find? (fun p => decide (p.1 = a))).map (·.2)
def mput (l : List (α × β)) (a : α) (v : β) : List (α × β) := if a ∈ l.map (·.1) then l.map (fun p => if p.1 = a then (a, v) else p) else l ++ [(a, v)]
theorem mget_none {l : List (α × β)} {a : α} : mget l a = none ↔ a ∉ l.map (·.1) := by
  simp only [mget, Option.map_eq_none_iff, List.find?_eq_none, decide_eq_true_eq, List.mem_map, not_exists, not_and]
theorem mget_at {l : List (α × β)} (hn : (l.map (·.1)).Nodup) {j : Nat} {p : α × β} (h : l[j]? = some p) : mget l p.1 = some p.2 := by
  obtain ⟨hj, rfl⟩ := List.getElem?_eq_some_iff.1 h
  have : l.find? (fun q => decide (q.1 = l[j].1)) = some l[j] := by
    rw [List.find?_eq_some_iff_getElem]
    refine ⟨by simp, j, hj, rfl, fun i hi => ?_⟩
    simp only [Bool.not_eq_eq_eq_not, Bool.not_true, decide_eq_false_iff_not]
    intro e
    have := (List.pairwise_iff_getElem.1 hn) i j (by simp; omega) (by simpa using hj) hi
    simp at this
    exact this e
  rw [mget, this]
  rfl
theorem mput_keys (l : List (α × β)) (a : α) (v : β) : (mput l a v).map (·.1) = if a ∈ l.map (·.1) then l.map (·.1) else l.map (·.1) ++ [a] := by
  unfold mput
  split
  · rw [List.map_map]
    apply List.map_congr_left
    intro p _
    simp only [Function.comp]
    split
    · rename_i h; exact h.symm
    · rfl
  · simp
theorem mput_nodup {l : List (α × β)} (hn : (l.map (·.1)).Nodup) (a : α) (v : β) : ((mput l a v).map (·.1)).Nodup := by
  rw [mput_keys]
  split
  · exact hn
  · rw [List.nodup_append]
    refine ⟨hn, by simp, ?_⟩
    rintro x hx y hy rfl
    simp at hy
    subst hy
    contradiction
theorem mget_put {l : List (α × β)} (a x : α) (v : β) : mget (mput l a v) x = if x = a then some v else mget l x := by
  unfold mput mget
  split
  · rename_i hin
    rw [List.find?_map]
    by_cases e : x = a
    · subst e
      rw [if_pos rfl]
      have : (fun p : α × β => decide (p.1 = x)) ∘ (fun p : α × β => if p.1 = x then (x, v) else p) = fun p => decide (p.1 = x) := by
        funext p; simp only [Function.comp]; split <;> simp_all
      rw [this]
      cases hf : l.find? (fun p => decide (p.1 = x)) with
      | none =>
        rw [List.find?_eq_none] at hf
        simp only [List.mem_map] at hin
        obtain ⟨p, hp, rfl⟩ := hin
        exact absurd (hf p hp) (by simp)
      | some p =>
        have := List.find?_some hf
        simp only [decide_eq_true_eq] at this
        simp [this]
    · rw [if_neg e]
      have : (fun p : α × β => decide (p.1 = x)) ∘ (fun p : α × β => if p.1 = a then (a, v) else p) = fun p => decide (p.1 = x) := by
        funext p
        simp only [Function.comp]
        split
        · rename_i h; simp [h, fun q : a = x => e q.symm]
        · rfl
      rw [this]
      cases hf : l.find? (fun p => decide (p.1 = x)) with
      | none => rfl
      | some p =>
        have := List.find?_some hf
        simp only [decide_eq_true_eq] at this
        simp [this, e]
  · rename_i hin
    rw [List.find?_append]
    by_cases e : x = a
    · subst e
      rw [if_pos rfl]
      have : l.find? (fun p => decide (p.1 = x)) = none := by
        rw [List.find?_eq_none]
        intro p hp h
        simp only [decide_eq_true_eq] at h
        exact hin (List.mem_map.2 ⟨p, hp, h⟩)
      simp [this]
    · rw [if_neg e]
      have e' : ¬ a = x := fun q => e q.symm
      simp [e']

/-- a set -/
def mset {γ : Type} (f : γ → α) (l : List γ) : List (α × Bool) := l.map fun x => (f x, true)
theorem mset_keys {γ : Type} (f : γ → α) (l : List γ) : (mset f l).map (·.1) = l.map f := by simp [mset]
theorem mget_set {γ : Type} (f : γ → α) (l : List γ) (a : α) : mget (mset f l) a = if a ∈ l.map f then some true else none := by
  split
  · rename_i h
    have hne : mget (mset f l) a ≠ none := by rw [Ne, mget_none, mset_keys]; simpa using h
    cases hg : mget (mset f l) a with
    | none => exact absurd hg hne
    | some v =>
      simp only [mget, Option.map_eq_some_iff] at hg
      obtain ⟨p, hp, rfl⟩ := hg
      have := List.mem_of_find?_eq_some hp
      simp only [mset, List.mem_map] at this
      obtain ⟨x, _, rfl⟩ := this
      rfl
  · rename_i h
    rw [mget_none, mset_keys]
    exact h
theorem mput_set {γ : Type} (f : γ → α) (l : List γ) (x : γ) (h : f x ∉ l.map f) : mput (mset f l) (f x) true = mset f (l ++ [x]) := by
  rw [mput, mset_keys, if_neg h]
  simp [mset]
theorem qr_look {P : Program} {Γ : Ctx} {t kt et : TypeId} {eK : α → Value} {eV : β → Value} {good : α → Prop} {z : Value} (T : KT P kt eK good) (ht : P.underlying t = some (.map kt et)) (hz : ∀ w, (zeroValue et).run P w = .ok z w) (ok : Bool)
    {b : Nat} {l : List (α × β)} (hm : MapL (lk Γ) b eK eV good l) {a : α} (ha : good a) :
    QR P (.look t ok) [.map (some b), eK a] Γ (if ok then .tuple #[(mget l a).elim z eV, .bool (mget l a).isSome] else (mget l a).elim z eV) := by
  intro w hw
  obtain ⟨es, clock, hb, he, _⟩ := hm.at'
  obtain ⟨h, hh, hb⟩ := hb
  have hb := hw h hh b _ hb
  simp only [qsem]
  rcases T.find w a ha es.toList (entry_good hm he) with ⟨h1, h2⟩ | ⟨j, e, h1, h2, h3⟩
  · have hg : mget l a = none := mget_none.2 (entry_none he h2)
    cases ok <;> simp [Instr.lookup, run_underlying ht, MapKept.run_getObj_map hb, T.check w _ a ha, h1, hz w, hg, Result.andThen]
  · obtain ⟨p, hp, hk, hv⟩ := entry_of he h2
    have : p.1 = a := T.inj _ _ (by rw [← hk, h3])
    subst this
    have hg := mget_at hm.nodup hp
    cases ok <;> simp [Instr.lookup, run_underlying ht, MapKept.run_getObj_map hb, T.check w _ _ ha, h1, hg, hv, Result.andThen]

section
variable {P : Program} {Γr : Ctx} {d : Option Nat} {r : List SOper} {φ : Fr} {Γ : Ctx} {K : Fr → Ctx → Prop}
theorem s_mkmap {t : TypeId} (hk : ∀ b, vcOps P Γr r (put φ d (.v true (.map (some b)))) (one b (.map #[] 0) :: Γ) K) : nC P Γr d r φ Γ K (.mkmap t) [] := by
  intro w _
  exact ⟨_, _, by simp only [qsem, List.head?_nil]; rfl, hk _⟩
theorem entry_put {es : Array MapEntry} {eK : α → Value} {eV : β → Value} {l : List (α × β)} {i : Nat} {a : α} {v : β} (hn : (l.map (·.1)).Nodup) (h : es.toList.map (fun e => (e.key, e.val)) = l.map (fun p => (eK p.1, eV p.2))) {p : α × β} (hp : l[i]? = some p) (ha : p.1 = a) :
    (es.modify i fun e => { e with key := eK a, val := eV v }).toList.map (fun e => (e.key, e.val)) = (mput l a v).map (fun p => (eK p.1, eV p.2)) := by
  have hin : a ∈ l.map (·.1) := List.mem_map.2 ⟨p, List.mem_of_getElem? hp, ha⟩
  rw [mput, if_pos hin]
  apply List.ext_getElem?
  intro j
  have hj := congrArg (·[j]?) h
  simp only [List.getElem?_map, Array.getElem?_toList] at hj ⊢
  rw [Array.getElem?_modify]
  obtain ⟨hi, rfl⟩ := List.getElem?_eq_some_iff.1 hp
  by_cases e : i = j
  · subst e
    rw [hp] at hj ⊢
    simp only [if_true, Option.map_some, ha] at hj ⊢
    cases hq : es[i]? with
    | none => rw [hq] at hj; simp at hj
    | some q => simp
  · rw [if_neg e, hj]
    cases hq : l[j]? with
    | none => rfl
    | some q =>
      obtain ⟨hj', rfl⟩ := List.getElem?_eq_some_iff.1 hq
      have : ¬ l[j].1 = a := fun q => by
        rw [← q] at ha
        have hpw := List.pairwise_iff_getElem.1 hn
        rcases Nat.lt_or_ge i j with q1 | q1
        · have := hpw i j (by simpa using hi) (by simpa using hj') q1
          simp at this
          exact this ha
        · have := hpw j i (by simpa using hj') (by simpa using hi) (by omega)
          simp at this
          exact this ha.symm
      simp [this]
theorem born_put {es : Array MapEntry} {c : Nat} (h : Born es.toList c) {j : Nat} {x y : Value} : Born (es.modify j fun e => { e with key := x, val := y }).toList c := by
  have hm : (es.modify j fun e => { e with key := x, val := y }).toList.map (·.born) = es.toList.map (·.born) := by
    apply List.ext_getElem?
    intro i
    simp only [List.getElem?_map, Array.getElem?_toList, Array.getElem?_modify]
    split
    · cases es[i]? <;> rfl
    · rfl
  refine ⟨fun e he => ?_, by rw [hm]; exact h.2⟩
  have : e.born ∈ es.toList.map (·.born) := by rw [← hm]; exact List.mem_map.2 ⟨e, he, rfl⟩
  obtain ⟨e', h1, h2⟩ := List.mem_map.1 this
  rw [← h2]
  exact h.1 e' h1
theorem s_upd {t kt et : TypeId} {eK : α → Value} {eV : β → Value} {good : α → Prop} (T : KT P kt eK good) (ht : P.underlying t = some (.map kt et)) {g : PH} {ix b : Nat} {l : List (α × β)} (hg : Γ[ix]? = some g) (hm : MapM g b eK eV good l) {a : α} (v : β) (ha : good a)
    (hk : ∀ g', MapM g' b eK eV good (mput l a v) → (∀ k, k ≠ b → g' k = g k) → vcOps P Γr r (put φ d (.v true undef)) (Γ.set ix g') K) : aC P Γr d r φ Γ K (.upd t) [.map (some b), eK a, eV v] := by
  intro w hw
  obtain ⟨es, clock, hb0, he, hbo⟩ := hm.at'
  have hgΓ : g ∈ Γ := List.mem_of_getElem? hg
  have hb := hw g (by simp [hgΓ]) b _ hb0
  have hgood : ∀ p ∈ mput l a v, good p.1 := fun p hp => by
    have : p.1 ∈ (mput l a v).map (·.1) := List.mem_map.2 ⟨p, hp, rfl⟩
    rw [mput_keys] at this
    split at this
    · obtain ⟨q, hq, e⟩ := List.mem_map.1 this
      rw [← e]; exact hm.good q hq
    · simp only [List.mem_append, List.mem_singleton] at this
      rcases this with q | q
      · obtain ⟨q, hq, e⟩ := List.mem_map.1 q
        rw [← e]; exact hm.good q hq
      · rw [q]; exact ha
  have hc := T.check w false a ha
  rcases T.find w a ha es.toList (entry_good hm he) with ⟨h1, h2⟩ | ⟨j, e, h1, h2, h3⟩
  · have hno := entry_none he h2
    refine ⟨undef, setBlk w b (.map (es.push { key := eK a, val := eV v, born := clock }) (clock + 1)), 0, ?_, .inr ⟨ix, g, b, _, _, hg, hb0, rfl, hk _ ⟨mput_nodup hm.nodup a v, hgood, _, _, upd_self _ _ _, ?_, ?_⟩ fun k hne => upd_other hne⟩⟩
    · simp [qsem, Instr.mapUpdate, run_underlying ht, MapKept.run_getObj_map hb, hc, h1, MapKept.run_setObj_map _ hb, Result.andThen, setBlk]
    · rw [mput, if_neg hno, Array.toList_push, List.map_append, he, List.map_append]
      rfl
    · rw [Array.toList_push]
      refine ⟨fun e he => ?_, ?_⟩
      · rcases List.mem_append.1 he with he | he
        · have := hbo.1 e he; omega
        · simp at he; subst he; simp
      · rw [List.map_append, List.nodup_append]
        refine ⟨hbo.2, by simp, ?_⟩
        rintro x hx y hy rfl
        simp at hy
        obtain ⟨e, he, rfl⟩ := List.mem_map.1 hx
        have := hbo.1 e he
        omega
  · obtain ⟨p, hp, hk', hv⟩ := entry_of he h2
    have hpa : p.1 = a := T.inj _ _ (by rw [← hk', h3])
    have hj : es[j]? = some e := by simpa using h2
    refine ⟨undef, setBlk w b (.map (es.modify j fun e => { e with key := eK a, val := eV v }) clock), 0, ?_, .inr ⟨ix, g, b, _, _, hg, hb0, rfl, hk _ ⟨mput_nodup hm.nodup a v, hgood, _, _, upd_self _ _ _, entry_put hm.nodup he hp hpa, born_put hbo⟩ fun k hne => upd_other hne⟩⟩
    simp [qsem, Instr.mapUpdate, run_underlying ht, MapKept.run_getObj_map hb, hc, h1, hj, h3, T.stays w a ha, MapKept.run_setObj_map _ hb, Result.andThen, setBlk]
end
end
end Go.Proofs.Ytniobbepliknmaa.V
/- Grids: rows of rows that are made and changed; no condition. -/
namespace Go.Proofs.Ytniobbepliknmaa.V
open Go
set_option linter.unusedVariables false
set_option linter.unusedSimpArgs false
set_option linter.unusedSectionVars false
attribute [local go_sem] e_seq e_region e_quiet e_join e_loop e_cond e_block e_exit e_ret e_skip e_fin e_kseq e_snrm e_sret e_sex e_bnrm e_bret e_bex e_rnrm e_rret e_res e_condC e_nil e_g e_mv g_mv e_pick g_pick pickC_eq e_ibin g_ibin ibinC_eq e_sbin g_sbin e_beq g_beq beqC_eq e_nilq g_nilq nilqC_sl nilqC_pt nilqC_mp e_un g_un unC_not unC_neg e_conv g_conv convC_eq e_fld g_fld fldC_ref fldC_ptr e_nilCheck g_nilCheck nilCheckC_ref nilCheckC_ptr nilCheckC_fun e_field g_field fieldC_eq e_len g_len lenC_sl lenC_str e_extract g_extract extractC_eq e_mkFunc e_build g_build e_idiv g_idiv idivC_eq e_ishift g_ishift ishiftC_eq e_idx g_idx e_idxA g_idxA e_load g_load loadC_ref loadC_ptr loadB_eq e_slc g_slc e_box boxC_loc boxC_esc e_alloc allocC_loc allocC_esc e_buildS e_store storeC_ref storeC_ptr storeB_eq e_append e_appz e_mk mkC_eq e_call callC_eq e_fn g_fn fnC_eq fnV_min' fnV_max' fnV_rune' e_q g_q e_a e_n g_call g_box g_alloc g_buildS g_store g_append g_mk g_a g_n g_dead e_dead e_callK e_drawn e_tree e_finJ e_tk e_tfin e_tno e_nbt_q e_nbt_qn e_nbt_a e_nbt_an e_nbt_fin e_early_nil e_early_t e_early_f e_nob_nil e_nob_none e_nob_some isBox_dead isBox_v isBox_ref e_dnil e_dk e_ek e_finB vcOps_vc1 e_dcons e_tq e_ekt e_tearly e_talt e_dearly look_nil look_c proj_nil proj_c looks_nil looks_c zip_nil zip_c val_tmp val_const val_func slv_v slv_box slv_ref slot_tmp slot_const slot_func slotL_v slotL_box slotL_ref put_some put_none updBox_c boxSet_box gd_eq slotVals_nil slotVals_c slotVals_b boxV_box boxOn_box slotsOn_nil slotsOn_c slotsOn_b resV_one resV_two vals_nil vals_c allOn_nil allOn_c partOn_nil partOn_c partVals_nil partVals_c fits_nil fits_c fillL_nil fillL_c mkv_one mkv_agg cellsV_agg cellsV_int cellsV_bool cellsV_slice cellsV_string cellsV_pointer cellsV_func cellsV_nilf cellsV_map one'_nil one'_c oc_int oc_bool oc_slice oc_string oc_pointer oc_func oc_nilf oc_map setC_eq iv_add iv_sub iv_mul iv_eql iv_neq iv_lss iv_leq iv_gtr iv_geq iok_add iok_sub iok_mul iok_eql iok_neq iok_lss iok_leq iok_gtr iok_geq pickV_bool args0_nil args0_c bnd_none bnd_some imp_bt imp_bf imp_ebt imp_ebf imp_eb1 imp_np imp_pp beq_tt beq_tf beq_ft beq_ff cond_or cond_and e_round e_meet Int.le_refl Int.toNat_zero decide_true decide_false Bool.or_false Bool.false_or Bool.true_or Bool.or_true Bool.and_false Bool.false_and Bool.bne_false Bool.bne_true beq_iff_eq Int.cast_ofNat_Int not_false_eq_true not_true_eq_false false_and and_false false_implies true_implies true_and and_true Bool.true_and Bool.and_true Bool.not_true Bool.not_false forall_const implies_true List.take_zero List.drop_zero List.take_succ_cons List.drop_succ_cons List.take_nil List.drop_nil List.length_cons List.length_nil List.nil_append List.append_nil List.cons_append Int.toNat_natCast decide_eq_true_eq decide_eq_false_iff_not cond_true cond_false and_self List.getElem?_cons_zero List.getElem?_cons_succ List.set_cons_zero List.set_cons_succ Option.some.injEq exists_eq_left' Nat.zero_add Nat.add_zero Nat.mul_one imp_self true_or or_true or_false false_or Bool.or_eq_true Bool.or_eq_false_iff Bool.and_eq_true Bool.and_eq_false_iff Bool.not_eq_true' Bool.not_eq_false'

section
variable {α : Type} [Sc α]
def gcell (p : Option Nat × List α) : Value := match p.1 with
  | none => .slice none 0 0
  | some k => .slice (some ⟨k, 0, none⟩) p.2.length p.2.length
structure GridB (g : PH) (b : Nat) (T e : TypeId) (ps : List (Option Nat × List α)) : Prop where
  out : g b = some (.cells (ps.map gcell).toArray T (0, 0))
  row : ∀ (i k : Nat) xs, ps[i]? = some (some k, xs) → k ≠ b ∧ g k = some (.cells (xs.map Sc.enc).toArray e (0, 0)) ∧ xs.length ≤ 1000000
  nil : ∀ (i : Nat) xs, ps[i]? = some (none, xs) → xs = []
  apart : ∀ (i j k : Nat) xs ys, ps[i]? = some (some k, xs) → ps[j]? = some (some k, ys) → i = j
  short : ps.length ≤ 1000000
/-- the rows of a grid whose outer array is b -/
def Grid (g : PH) (b : Nat) (T e : TypeId) (rows : List (List α)) : Prop := ∃ ps, GridB g b T e ps ∧ rows = ps.map (·.2)

theorem Grid.made (b : Nat) (T e : TypeId) {m : Nat} (hm : m ≤ 1000000) : Grid (one b (.cells (zerosL [Value.slice none 0 0] m).toArray T)) b T e (List.replicate m ([] : List α)) := by
  refine ⟨List.replicate m (none, []), ⟨?_, ?_, ?_, ?_, by simpa using hm⟩, by simp⟩
  · rw [one_self]
    congr 3
    induction m with
    | zero => rfl
    | succ m ih => simp [zerosL, List.replicate_succ, gcell, ih (by omega)]
  · intro i k xs h
    rw [List.getElem?_replicate] at h
    split at h <;> simp at h
  · intro i xs h
    rw [List.getElem?_replicate] at h
    split at h <;> simp at h
    exact h
  · intro i j k xs ys h
    rw [List.getElem?_replicate] at h
    split at h <;> simp at h
theorem Grid.mono {g g' : PH} {b : Nat} {T e : TypeId} {rows : List (List α)} (h : Grid g b T e rows) (hl : Mem.le (lk [g]) (lk [g'])) : Grid g' b T e rows := by
  obtain ⟨ps, h, rfl⟩ := h
  have up : ∀ k o, g k = some o → g' k = some o := fun k o q => lk_one.1 (hl _ _ (lk_one.2 q))
  exact ⟨ps, ⟨up _ _ h.out, fun i k xs q => let ⟨a, b, c⟩ := h.row i k xs q; ⟨a, up _ _ b, c⟩, h.nil, h.apart, h.short⟩, rfl⟩
theorem Grid.short {g : PH} {b : Nat} {T e : TypeId} {rows : List (List α)} (h : Grid g b T e rows) : rows.length ≤ 1000000 := by
  obtain ⟨ps, h, rfl⟩ := h
  simpa using h.short
theorem Grid.slok {g : PH} {b : Nat} {T e : TypeId} {rows : List (List α)} {L : Mem} (h : Grid g b T e rows) (hL : Mem.le (lk [g]) L) : SlOk L (some ⟨b, 0, none⟩) rows.length rows := by
  have hs := h.short
  obtain ⟨ps, h, rfl⟩ := h
  refine ⟨Nat.le_refl _, by unfold maxLen; omega, by omega, .inr ⟨b, 0, _, T, _, rfl, hL _ _ (lk_one.2 h.out), fun i x hi => ?_⟩⟩
  rw [List.getElem?_map] at hi
  cases hp : ps[i]? with
  | none => rw [hp] at hi; simp at hi
  | some p =>
    obtain ⟨o, xs⟩ := p
    rw [hp] at hi
    simp only [Option.map_some, Option.some.injEq] at hi
    subst hi
    refine ⟨[gcell (o, xs)], ?_, fun j hj => ?_⟩
    · cases o with
      | none =>
        have := h.nil i xs hp
        subst this
        exact ⟨none, 0, rfl, SlOk.nil⟩
      | some k =>
        obtain ⟨h1, h2, h3⟩ := h.row i k xs hp
        exact ⟨_, _, rfl, Arr.slok (g := g) (b := k) (T := e) h2 hL (Nat.le_refl _) (by unfold maxLen; show xs.length ≤ _; omega) (by omega)⟩
    · have : j = 0 := by simp [Rep.sz] at hj; exact hj
      subst this
      simp [Rep.sz, hp]
/-- rows[i] is to be changed -/
theorem Grid.at' {g : PH} {b : Nat} {T e : TypeId} {rows : List (List α)} (h : Grid g b T e rows) {i : Nat} (hi : i < rows.length) (hpos : 0 < rows[i].length) :
    ∃ k, (∀ Γ : Ctx, g ∈ Γ → Cells Γ b i [.slice (some ⟨k, 0, none⟩) rows[i].length rows[i].length]) ∧ Arr g k e rows[i] ∧
      ∀ g' (xs : List α), Arr g' k e xs → xs.length = rows[i].length → (∀ x, x ≠ k → g' x = g x) → Grid g' b T e (rows.set i xs) := by
  obtain ⟨ps, h, rfl⟩ := h
  have hi' : i < ps.length := by simpa using hi
  obtain ⟨o, xs, hp⟩ : ∃ o xs, ps[i]? = some (o, xs) := ⟨_, _, List.getElem?_eq_getElem hi'⟩
  have hx : (ps.map (·.2))[i] = xs := by
    have := (List.getElem?_eq_some_iff.1 hp).2
    simp [this]
  simp only [hx] at hpos ⊢
  cases o with
  | none => have := h.nil i xs hp; subst this; simp at hpos
  | some k =>
    obtain ⟨h1, h2, h3⟩ := h.row i k xs hp
    refine ⟨k, fun Γ hg => ⟨g, hg, _, T, _, h.out, fun j hj => ?_⟩, h2, fun g' ys hA hl ho => ?_⟩
    · have : j = 0 := by simp at hj; exact hj
      subst this
      simp [hp, gcell]
    · have hset : ∀ j, (ps.set i (some k, ys))[j]? = if i = j then some (some k, ys) else ps[j]? := fun j => by
        rw [List.getElem?_set]
        by_cases e : i = j
        · subst e; simp [hi']
        · simp [e]
      refine ⟨ps.set i (some k, ys), ⟨?_, ?_, ?_, ?_, by simpa using h.short⟩, by simp [List.map_set]⟩
      · rw [ho b (fun q => h1 q.symm), h.out]
        congr 3
        apply List.ext_getElem?
        intro j
        rw [List.getElem?_map, List.getElem?_map, hset]
        by_cases e : i = j
        · subst e
          simp [hp, gcell, hl]
        · simp [e]
      · intro j m zs hj
        rw [hset] at hj
        by_cases e : i = j
        · subst e
          simp only [if_true, Option.some.injEq, Prod.mk.injEq] at hj
          obtain ⟨rfl, rfl⟩ := hj
          exact ⟨h1, hA, by omega⟩
        · rw [if_neg e] at hj
          obtain ⟨q1, q2, q3⟩ := h.row j m zs hj
          have hm : m ≠ k := fun q => by subst q; exact e (h.apart i j m xs zs hp hj)
          exact ⟨q1, by rw [ho m hm]; exact q2, q3⟩
      · intro j zs hj
        rw [hset] at hj
        by_cases e : i = j
        · subst e; simp at hj
        · rw [if_neg e] at hj; exact h.nil j zs hj
      · intro j j' m zs zs' hj hj'
        rw [hset] at hj hj'
        by_cases e : i = j
        · subst e
          simp only [if_true, Option.some.injEq, Prod.mk.injEq] at hj
          obtain ⟨rfl, rfl⟩ := hj
          by_cases e' : i = j'
          · exact e'
          · rw [if_neg e'] at hj'
            exact h.apart i j' k xs zs' hp hj'
        · rw [if_neg e] at hj
          by_cases e' : i = j'
          · subst e'
            simp only [if_true, Option.some.injEq, Prod.mk.injEq] at hj'
            obtain ⟨rfl, rfl⟩ := hj'
            exact h.apart j i k zs xs hj hp
          · rw [if_neg e'] at hj'
            exact h.apart j j' m zs zs' hj hj'
/-- a new row, whose array lies elsewhere, is put in -/
theorem Grid.put {g : PH} {b : Nat} {T e : TypeId} {rows : List (List α)} (h : Grid g b T e rows) {i : Nat} (hi : i < rows.length) (k : Nat) (xs : List α) (hl : xs.length ≤ 1000000) {cs : List Value} (hc : g b = some (.cells cs.toArray T (0, 0)))
    {x2 G : PH} (hA : Arr x2 k e xs) (hd : Disj x2 (upd g b (.cells (setC cs i 1 (.slice (some ⟨k, 0, none⟩) xs.length xs.length)).toArray T))) (hG : Mem.le (lk [x2, upd g b (.cells (setC cs i 1 (.slice (some ⟨k, 0, none⟩) xs.length xs.length)).toArray T)]) (lk [G])) :
    Grid G b T e (rows.set i xs) := by
  obtain ⟨ps, h, rfl⟩ := h
  have hi' : i < ps.length := by simpa using hi
  have hcs : cs = ps.map gcell := by
    have := h.out
    rw [hc] at this
    simpa using this
  subst hcs
  have up1 : ∀ j o, x2 j = some o → G j = some o := fun j o q => lk_one.1 (hG _ _ ⟨x2, by simp, q⟩)
  have up2 : ∀ j o, upd g b (.cells (setC (ps.map gcell) i 1 (.slice (some ⟨k, 0, none⟩) xs.length xs.length)).toArray T) j = some o → G j = some o := fun j o q => lk_one.1 (hG _ _ ⟨_, by simp, q⟩)
  have hkg : ∀ j, j = b ∨ g j ≠ none → j ≠ k := fun j hj q => by
    subst q
    rcases hd j with q | q
    · rw [Arr] at hA; rw [hA] at q; cases q
    · rcases hj with rfl | hj
      · rw [upd_self] at q; cases q
      · by_cases e : j = b
        · subst e; rw [upd_self] at q; cases q
        · rw [upd_other e] at q; exact hj q
  have hset : ∀ j, (ps.set i (some k, xs))[j]? = if i = j then some (some k, xs) else ps[j]? := fun j => by
    rw [List.getElem?_set]
    by_cases e : i = j
    · subst e; simp [hi']
    · simp [e]
  refine ⟨ps.set i (some k, xs), ⟨?_, ?_, ?_, ?_, by simpa using h.short⟩, by simp [List.map_set]⟩
  · rw [up2 b _ (upd_self _ _ _)]
    congr 3
    rw [List.map_set, List.set_eq_take_append_cons_drop, if_pos (by simpa using hi')]
    simp [setC, cellsV, gcell, Value.cells]
  · intro j m zs hj
    rw [hset] at hj
    by_cases e : i = j
    · subst e
      simp only [if_true, Option.some.injEq, Prod.mk.injEq] at hj
      obtain ⟨rfl, rfl⟩ := hj
      exact ⟨fun q => hkg b (.inl rfl) q.symm, up1 _ _ hA, hl⟩
    · rw [if_neg e] at hj
      obtain ⟨q1, q2, q3⟩ := h.row j m zs hj
      exact ⟨q1, up2 _ _ (by rw [upd_other q1]; exact q2), q3⟩
  · intro j zs hj
    rw [hset] at hj
    by_cases e : i = j
    · subst e; simp at hj
    · rw [if_neg e] at hj; exact h.nil j zs hj
  · intro j j' m zs zs' hj hj'
    rw [hset] at hj hj'
    by_cases e : i = j
    · subst e
      simp only [if_true, Option.some.injEq, Prod.mk.injEq] at hj
      obtain ⟨rfl, rfl⟩ := hj
      by_cases e' : i = j'
      · exact e'
      · rw [if_neg e'] at hj'
        have := (h.row j' k zs' hj').2.1
        exact absurd rfl (hkg k (.inr (by rw [this]; simp)))
    · rw [if_neg e] at hj
      by_cases e' : i = j'
      · subst e'
        simp only [if_true, Option.some.injEq, Prod.mk.injEq] at hj'
        obtain ⟨rfl, rfl⟩ := hj'
        have := (h.row j k zs hj).2.1
        exact absurd rfl (hkg k (.inr (by rw [this]; simp)))
      · rw [if_neg e'] at hj'
        exact h.apart j j' m zs zs' hj hj'
end
section
variable {P : Program} {Γr : Ctx} {d : Option Nat} {r : List SOper} {φ : Fr} {Γ : Ctx} {K : Fr → Ctx → Prop}
/-- rows[i] = make(..) -/
theorem s_storeG {α : Type} [Sc α] {g : PH} {b i ix k n : Nat} {T e : TypeId} {rows : List (List α)} (xs : List α) (hn : n = xs.length) (hg : Γ[ix]? = some g) (h : Grid g b T e rows) (hi : i < rows.length) (hl : xs.length ≤ 1000000)
    (hk : ∀ g', (∀ x2 G, Arr x2 k e xs → Disj x2 g' → Mem.le (lk [x2, g']) (lk [G]) → Grid G b T e (rows.set i xs)) → vcOps P Γr r φ (Γ.set ix g') K) : storeP P Γr r φ Γ K 1 b i (.slice (some ⟨k, 0, none⟩) n n) := by
  subst hn
  obtain ⟨ps, hB, hr⟩ := id h
  refine ⟨ix, g, _, T, hg, hB.out, by subst hr; simp at hi ⊢; omega, ?_⟩
  exact hk _ fun x2 G hA hd hG => h.put hi k xs hl hB.out hA hd hG
end
end Go.Proofs.Ytniobbepliknmaa.V
/- The text of (*parlance/mean.ends).after as a statement (slots: 0 e, 1 y, 2 from, 3 e, 4 y, 5 from, 7 out, 8 i); no condition. -/
namespace Go.Proofs.Ytniobbepliknmaa.V
open Go
def S206_1 : Stmt :=
  Stmt.block 1
  (Stmt.seq
    (Stmt.seq
      (Stmt.region
        [SOper.mk (some 18) none (SOp.mv (Operand.tmp 2)), SOper.mk (some 19) none (SOp.mv (Operand.tmp 8)),
          SOper.mk (some 20) none (SOp.ishift BinOp.shr (Operand.tmp 18) (Operand.tmp 19)),
          SOper.mk (some 21) none
            (SOp.fn (Fk.bits BinOp.and) [Operand.tmp 20, Operand.const (Value.int IntKind.u32 1)]),
          SOper.mk (some 22) none (SOp.ibin BinOp.eql (Operand.tmp 21) (Operand.const (Value.int IntKind.u32 0)))]
        [0, 2, 4, 7, 8, 22])
      (Stmt.cond (Operand.tmp 22) (Stmt.exit 1) Stmt.skip))
    (Stmt.block 2
      (Stmt.seq
        (Stmt.region
          [SOper.mk (some 24) none (SOp.fld 0 (Operand.tmp 4)),
            SOper.mk (some 25) none (SOp.load false 1 (Operand.tmp 24)),
            SOper.mk (some 26) none (SOp.un UnOp.not (Operand.tmp 25)),
            SOper.mk (some 23) none (SOp.mv (Operand.tmp 26))]
          [0, 2, 4, 7, 8, 23])
        (Stmt.cond (Operand.tmp 23)
          (Stmt.quiet
            [SOper.mk (some 27) none (SOp.mv (Operand.tmp 7)), SOper.mk (some 28) none (SOp.mv (Operand.tmp 0)),
              SOper.mk (some 29) none (SOp.nilCheck (Operand.tmp 28)),
              SOper.mk (some 30) none (SOp.fld 5 (Operand.tmp 29)),
              SOper.mk (some 31) none (SOp.load false 1 (Operand.tmp 30)),
              SOper.mk (some 32) none (SOp.fld 1 (Operand.tmp 4)),
              SOper.mk (some 33) none (SOp.load false 1 (Operand.tmp 32)),
              SOper.mk (some 34) none (SOp.idx 1 (Operand.tmp 31) (Operand.tmp 33)),
              SOper.mk (some 35) none (SOp.load false 1 (Operand.tmp 34)),
              SOper.mk (some 36) none (SOp.mv (Operand.tmp 8)),
              SOper.mk (some 37) none (SOp.idx 1 (Operand.tmp 35) (Operand.tmp 36)),
              SOper.mk (some 38) none (SOp.load false 1 (Operand.tmp 37)),
              SOper.mk (some 39) none (SOp.fn (Fk.bits BinOp.or) [Operand.tmp 27, Operand.tmp 38]),
              SOper.mk (some 7) none (SOp.mv (Operand.tmp 39))]
            [0, 2, 4, 7, 8])
          (Stmt.seq
            (Stmt.quiet
              [SOper.mk (some 41) none (SOp.mv (Operand.tmp 8)), SOper.mk (some 42) none (SOp.mv (Operand.tmp 0)),
                SOper.mk (some 43) none (SOp.nilCheck (Operand.tmp 42)),
                SOper.mk (some 44) none (SOp.fld 4 (Operand.tmp 43)),
                SOper.mk (some 45) none (SOp.load false 1 (Operand.tmp 44)),
                SOper.mk (some 46) none (SOp.len false (Operand.tmp 45)),
                SOper.mk (some 47) none (SOp.ibin BinOp.lss (Operand.tmp 41) (Operand.tmp 46)),
                SOper.mk (some 48) none (SOp.mv (Operand.tmp 47)),
                SOper.mk (some 49) (some (48, true)) (SOp.mv (Operand.tmp 0)),
                SOper.mk (some 50) (some (48, true)) (SOp.nilCheck (Operand.tmp 49)),
                SOper.mk (some 51) (some (48, true)) (SOp.fld 4 (Operand.tmp 50)),
                SOper.mk (some 52) (some (48, true)) (SOp.load false 1 (Operand.tmp 51)),
                SOper.mk (some 53) (some (48, true)) (SOp.mv (Operand.tmp 8)),
                SOper.mk (some 54) (some (48, true)) (SOp.idx 1 (Operand.tmp 52) (Operand.tmp 53)),
                SOper.mk (some 55) (some (48, true)) (SOp.load false 1 (Operand.tmp 54)),
                SOper.mk (some 56) (some (48, true)) (SOp.fld 1 (Operand.tmp 4)),
                SOper.mk (some 57) (some (48, true)) (SOp.load false 1 (Operand.tmp 56)),
                SOper.mk (some 58) (some (48, true)) (SOp.ibin BinOp.eql (Operand.tmp 55) (Operand.tmp 57)),
                SOper.mk (some 59) none (SOp.pick (Operand.tmp 48) (Operand.tmp 58) (Operand.const (Value.bool false))),
                SOper.mk (some 40) none (SOp.mv (Operand.tmp 59))]
              [0, 2, 4, 7, 8, 40])
            (Stmt.cond (Operand.tmp 40)
              (Stmt.region
                [SOper.mk (some 60) none (SOp.mv (Operand.tmp 7)), SOper.mk (some 61) none (SOp.mv (Operand.tmp 8)),
                  SOper.mk (some 62) none
                    (SOp.ibin BinOp.add (Operand.tmp 61) (Operand.const (Value.int IntKind.i64 1))),
                  SOper.mk (some 63) none
                    (SOp.ishift BinOp.shl (Operand.const (Value.int IntKind.u32 1)) (Operand.tmp 62)),
                  SOper.mk (some 64) none (SOp.fn (Fk.bits BinOp.or) [Operand.tmp 60, Operand.tmp 63]),
                  SOper.mk (some 7) none (SOp.mv (Operand.tmp 64))]
                [0, 2, 4, 7, 8])
              Stmt.skip))))))
def S206_2 : Stmt :=
  Stmt.region
  [SOper.mk (some 16) none (SOp.mv (Operand.tmp 8)),
    SOper.mk (some 17) none (SOp.ibin BinOp.add (Operand.tmp 16) (Operand.const (Value.int IntKind.i64 1))),
    SOper.mk (some 8) none (SOp.mv (Operand.tmp 17))]
  [0, 2, 4, 7, 8]
def S206_3 : Stmt :=
  Stmt.seq
  (Stmt.seq
    (Stmt.region
      [SOper.mk (some 9) none (SOp.mv (Operand.tmp 8)), SOper.mk (some 10) none (SOp.mv (Operand.tmp 0)),
        SOper.mk (some 11) none (SOp.nilCheck (Operand.tmp 10)), SOper.mk (some 12) none (SOp.fld 4 (Operand.tmp 11)),
        SOper.mk (some 13) none (SOp.load false 1 (Operand.tmp 12)),
        SOper.mk (some 14) none (SOp.len false (Operand.tmp 13)),
        SOper.mk (some 15) none (SOp.ibin BinOp.leq (Operand.tmp 9) (Operand.tmp 14))]
      [0, 2, 4, 7, 8, 15])
    (Stmt.cond (Operand.tmp 15) Stmt.skip (Stmt.exit 0)))
  (Stmt.join S206_1 S206_2 [7] [0, 2, 4, 8])
def S206_0 : Stmt :=
  Stmt.seq
  (Stmt.region
    [SOper.mk (some 4) none (SOp.box true 39 (Operand.tmp 1)),
      SOper.mk (some 6) none (SOp.mv (Operand.const (Value.int IntKind.u32 0)))]
    [0, 2, 4])
  (Stmt.seq (Stmt.region [SOper.mk (some 7) none (SOp.mv (Operand.const (Value.int IntKind.u32 0)))] [0, 2, 4, 7])
    (Stmt.seq
      (Stmt.seq
        (Stmt.region [SOper.mk (some 8) none (SOp.mv (Operand.const (Value.int IntKind.i64 0)))] [0, 2, 4, 7, 8])
        (Stmt.block 0 (Stmt.loop S206_3 [7, 8] [0, 2, 4])))
      (Stmt.seq
        (Stmt.region
          [SOper.mk (some 65) none (SOp.mv (Operand.tmp 7)), SOper.mk (some 6) none (SOp.mv (Operand.tmp 65))] [6])
        Stmt.ret)))
def S206 : FnS := ⟨66, [(6, none)], S206_0⟩
theorem tr206 : trFn Try.prog 206 [4] [[0, 2, 4], [0, 2, 4, 7], [0, 2, 4, 7, 8], [7, 8], [0, 2, 4], [0, 2, 4, 7, 8, 15], [7], [0, 2, 4, 8], [0, 2, 4, 7, 8, 22], [0, 2, 4, 7, 8, 23], [0, 2, 4, 7, 8], [0, 2, 4, 7, 8, 40], [0, 2, 4, 7, 8], [0, 2, 4, 7, 8], [6]] = some S206 := by kernel_rfl
end Go.Proofs.Ytniobbepliknmaa.V
/- The text of (*parlance/mean.ends).is as a statement (slots: 0 e, 1 y, 2 i, 3 j, 4 e, 5 y, 6 i, 7 j); no condition. -/
namespace Go.Proofs.Ytniobbepliknmaa.V
open Go
def S183_0 : Stmt :=
  Stmt.seq
  (Stmt.region
    [SOper.mk (some 5) none (SOp.box true 39 (Operand.tmp 1)),
      SOper.mk (some 8) none (SOp.mv (Operand.const (Value.bool false)))]
    [0, 2, 3, 5])
  (Stmt.seq
    (Stmt.drawn
      [(false, SOper.mk (some 9) none (SOp.mv (Operand.tmp 0))),
        (false, SOper.mk (some 10) none (SOp.load true 2 (Operand.tmp 5))),
        (false, SOper.mk (some 11) none (SOp.mv (Operand.tmp 2))),
        (false,
          SOper.mk (some 12) none (SOp.ishift BinOp.shl (Operand.const (Value.int IntKind.u32 1)) (Operand.tmp 11))),
        (false, SOper.mk (some 14) none (SOp.mv (Operand.tmp 3))),
        (false, SOper.mk (some 13) none (SOp.call (Operand.func 206) [Operand.tmp 9, Operand.tmp 10, Operand.tmp 12])),
        (false, SOper.mk (some 15) none (SOp.ishift BinOp.shr (Operand.tmp 13) (Operand.tmp 14))),
        (false,
          SOper.mk (some 16) none
            (SOp.fn (Fk.bits BinOp.and) [Operand.tmp 15, Operand.const (Value.int IntKind.u32 1)])),
        (false,
          SOper.mk (some 17) none (SOp.ibin BinOp.eql (Operand.tmp 16) (Operand.const (Value.int IntKind.u32 1)))),
        (false, SOper.mk (some 8) none (SOp.mv (Operand.tmp 17)))]
      [8])
    Stmt.ret)
def S183 : FnS := ⟨18, [(8, none)], S183_0⟩
theorem tr183 : trFn Try.prog 183 [5] [[0, 2, 3, 5], [8], [0, 1, 2, 3, 5, 4, 6, 7, 8, 9], [], [], [], [], [2], [0, 1, 2, 3], [], [0, 1, 2, 3, 4, 5], [0, 1, 2, 3, 4, 5, 6], [0, 1, 2, 3, 4, 5, 6, 7], [0, 1, 2, 3, 4, 5, 6, 7, 8]] = some S183 := by kernel_rfl
end Go.Proofs.Ytniobbepliknmaa.V
/- The ends of symbols in a word: mean's after and is; no condition. -/
namespace Go.Proofs.Ytniobbepliknmaa.V
open Go
set_option linter.unusedVariables false
set_option linter.unusedSimpArgs false
attribute [local go_sem] e_seq e_region e_quiet e_join e_loop e_cond e_block e_exit e_ret e_skip e_fin e_kseq e_snrm e_sret e_sex e_bnrm e_bret e_bex e_rnrm e_rret e_res e_condC e_nil e_g e_mv g_mv e_pick g_pick pickC_eq e_ibin g_ibin ibinC_eq e_sbin g_sbin e_beq g_beq beqC_eq e_nilq g_nilq nilqC_sl nilqC_pt nilqC_mp e_un g_un unC_not unC_neg e_conv g_conv convC_eq e_fld g_fld fldC_ref fldC_ptr e_nilCheck g_nilCheck nilCheckC_ref nilCheckC_ptr nilCheckC_fun e_field g_field fieldC_eq e_len g_len lenC_sl lenC_str e_extract g_extract extractC_eq e_mkFunc e_build g_build e_idiv g_idiv idivC_eq e_ishift g_ishift ishiftC_eq e_idx g_idx e_idxA g_idxA e_load g_load loadC_ref loadC_ptr loadB_eq e_slc g_slc e_box boxC_loc boxC_esc e_alloc allocC_loc allocC_esc e_buildS e_store storeC_ref storeC_ptr storeB_eq e_append e_appz e_mk mkC_eq e_call callC_eq e_fn g_fn fnC_eq fnV_min' fnV_max' fnV_rune' e_q g_q e_a e_n g_call g_box g_alloc g_buildS g_store g_append g_mk g_a g_n g_dead e_dead e_callK e_drawn e_tree e_finJ e_tk e_tfin e_tno e_nbt_q e_nbt_qn e_nbt_a e_nbt_an e_nbt_fin e_early_nil e_early_t e_early_f e_nob_nil e_nob_none e_nob_some isBox_dead isBox_v isBox_ref e_dnil e_dk e_ek e_finB vcOps_vc1 e_dcons e_tq e_ekt e_tearly e_talt e_dearly look_nil look_c proj_nil proj_c looks_nil looks_c zip_nil zip_c val_tmp val_const val_func slv_v slv_box slv_ref slot_tmp slot_const slot_func slotL_v slotL_box slotL_ref put_some put_none updBox_c boxSet_box gd_eq slotVals_nil slotVals_c slotVals_b boxV_box boxOn_box slotsOn_nil slotsOn_c slotsOn_b resV_one resV_two vals_nil vals_c allOn_nil allOn_c partOn_nil partOn_c partVals_nil partVals_c fits_nil fits_c fillL_nil fillL_c mkv_one mkv_agg cellsV_agg cellsV_int cellsV_bool cellsV_slice cellsV_string cellsV_pointer cellsV_func cellsV_nilf cellsV_map one'_nil one'_c oc_int oc_bool oc_slice oc_string oc_pointer oc_func oc_nilf oc_map setC_eq iv_add iv_sub iv_mul iv_eql iv_neq iv_lss iv_leq iv_gtr iv_geq iok_add iok_sub iok_mul iok_eql iok_neq iok_lss iok_leq iok_gtr iok_geq pickV_bool args0_nil args0_c bnd_none bnd_some imp_bt imp_bf imp_ebt imp_ebf imp_eb1 imp_np imp_pp beq_tt beq_tf beq_ft beq_ff cond_or cond_and e_round e_meet Int.le_refl Int.toNat_zero decide_true decide_false Bool.or_false Bool.false_or Bool.true_or Bool.or_true Bool.and_false Bool.false_and Bool.bne_false Bool.bne_true beq_iff_eq Int.cast_ofNat_Int not_false_eq_true not_true_eq_false false_and and_false false_implies true_implies true_and and_true Bool.true_and Bool.and_true Bool.not_true Bool.not_false forall_const implies_true List.take_zero List.drop_zero List.take_succ_cons List.drop_succ_cons List.take_nil List.drop_nil List.length_cons List.length_nil List.nil_append List.append_nil List.cons_append Int.toNat_natCast decide_eq_true_eq decide_eq_false_iff_not cond_true cond_false and_self List.getElem?_cons_zero List.getElem?_cons_succ List.set_cons_zero List.set_cons_succ Option.some.injEq exists_eq_left' Nat.zero_add Nat.add_zero Nat.mul_one imp_self true_or or_true or_false false_or Bool.or_eq_true Bool.or_eq_false_iff Bool.and_eq_true Bool.and_eq_false_iff Bool.not_eq_true' Bool.not_eq_false'

/-- the bits of a table -/
def Eb (rows : List (List U32)) (a : Int) (i j : Nat) : Prop := 0 ≤ a ∧ ∃ row x, rows[a.toNat]? = some row ∧ row[i]? = some x ∧ x.n.testBit j = true
structure TabOk (rows : List (List U32)) (n m : Nat) : Prop where
  len : rows.length = n
  row : ∀ r ∈ rows, r.length = m
  small : ∀ r ∈ rows, ∀ x ∈ r, x.n < 4294967296
theorem TabOk.at' {rows : List (List U32)} {n m : Nat} (h : TabOk rows n m) {a : Nat} (ha : a < rows.length) : rows[a].length = m := h.row _ (List.getElem_mem ha)
theorem SlOk.u32 {h : Mem} {A : Option Addr} {c : Nat} {xs : List U32} (q : SlOk h A c xs) {i : Nat} (hi : i < xs.length) :
    ∃ b o, A = some ⟨b, o, none⟩ ∧ ∀ Γ : Ctx, Mem.le h (lk Γ) → Cells Γ b (o + i) [.int .u32 xs[i].n] := by
  obtain ⟨b, o, hA, cs, h1, h2⟩ := q.get hi
  obtain rfl := ok_sc h1
  exact ⟨b, o, hA, fun Γ h => by simpa [Rep.sz, Sc.enc] using h2 Γ h⟩
/-- a record of ends -/
def endsV (g : Gr) (A : Option Addr) (c : Nat) (W : Option Addr) (d : Nat) (w : List Int) (O : Option Addr) (n e : Nat) : List Value := [.int .i64 g.ts, .int .i64 g.ns, .int .i64 g.st, .slice A g.rs.length c, .slice W w.length d, .slice O n e]
theorem SlOk.rowU {h : Mem} {A : Option Addr} {c : Nat} {xs : List (List U32)} (q : SlOk h A c xs) {i : Nat} (hi : i < xs.length) :
    ∃ b o, A = some ⟨b, o, none⟩ ∧ ∃ A' c', SlOk h A' c' xs[i] ∧ ∀ Γ : Ctx, Mem.le h (lk Γ) → Cells Γ b (o + i) [.slice A' xs[i].length c'] := q.list hi
theorem uns32 : Uns .u32 := .inl rfl
theorem uns64 : Uns .u64 := .inr rfl
theorem mean_after {Γr : Ctx} {b : Nat} {T : TypeId} {g : Gr} {A W O : Option Addr} {c d e : Nat} {w : List Int} {rows : List (List U32)} (hb : lk Γr b (.cells (endsV g A c W d w O rows.length e).toArray T (0, 0)))
    (hw : SlOk (lk Γr) W d w) (ho : SlOk (lk Γr) O e rows) {n : Nat} (hT : TabOk rows n (w.length + 1)) (hl : w.length ≤ 30) (y : Sy) (hy : y.t = false → 0 ≤ y.n ∧ y.n < n) (at_ : Nat) (hat : at_ < 4294967296) :
    Ret Try.prog 206 [.pointer (some ⟨b, 0, none⟩), .agg #[.bool y.t, .int .i64 y.n], .int .u32 at_] Γr [] (fun v Γ => Γ = [] ∧ ∃ z : Nat, v = .int .u32 z ∧ z < 4294967296 ∧ ∀ j, z.testBit j = true ↔ ∃ i, i ≤ w.length ∧ at_.testBit i = true ∧ Stp (Eb rows) w y i j) := by
  generalize hR : (fun (v : Value) (Γ : Ctx) => Γ = [] ∧ _) = R
  refine ret_of_vc tr206 (Nat.le_of_ble_eq_true rfl) ?_
  simp -implicitDefEqProofs only [S206, S206_0, go_sem, Nat.reduceBEq, Nat.reduceAdd, Nat.reduceSub, Nat.reduceMul, Nat.reduceLeDiff, reduceCtorEq, ↓reduceIte, Int.reduceLT, Int.reduceLE, Int.reduceEq, Int.reduceNe]
  intro b0
  refine s_loop (fun f vs Γ => Γ = [] ∧ ∃ (i z : Nat), vs = [.v true (.int .u32 z), .v true (.int .i64 i)] ∧ i + f = w.length + 1 ∧ z < 4294967296 ∧ ∀ j, z.testBit j = true ↔ ∃ i', i' < i ∧ at_.testBit i' = true ∧ Stp (Eb rows) w y i' j) (w.length + 1)
    (Up.here ⟨rfl, 0, 0, rfl, by omega, by omega, by simp⟩) ?_
  rintro f vs Γ ⟨rfl, i, z, rfl, hif, hz, hzj⟩
  simp -implicitDefEqProofs only [S206_3, go_sem, Nat.reduceBEq, Nat.reduceAdd, Nat.reduceSub, Nat.reduceMul, Nat.reduceLeDiff, reduceCtorEq, ↓reduceIte, Int.reduceLT, Int.reduceLE, Int.reduceEq, Int.reduceNe]
  refine s_ld (o := 0) (j := 4) (cells_lk (lk_r _ _ _ _ hb)) (by simp [endsV]) (by simp) ?_
  simp -implicitDefEqProofs only [endsV, go_sem, Nat.reduceBEq, Nat.reduceAdd, Nat.reduceSub, Nat.reduceMul, Nat.reduceLeDiff, reduceCtorEq, ↓reduceIte, Int.reduceLT, Int.reduceLE, Int.reduceEq, Int.reduceNe]
  refine ⟨fun hle => ?_, fun hgt => ?_⟩
  · have hi : i ≤ w.length := by omega
    refine s_split ?_
    simp -implicitDefEqProofs only [S206_1, S206_2, bit_shr uns32 hat, bit_get uns32 hat, fnC_eq, go_sem, Nat.reduceBEq, Nat.reduceAdd, Nat.reduceSub, Nat.reduceMul, Nat.reduceLeDiff, reduceCtorEq, ↓reduceIte, Int.reduceLT, Int.reduceLE, Int.reduceEq, Int.reduceNe]
    have fin : ∀ z' : Nat, z' < 4294967296 → (∀ j, z'.testBit j = true ↔ z.testBit j = true ∨ (at_.testBit i = true ∧ Stp (Eb rows) w y i j)) → ∃ n', n' < f ∧ Up [] fun Γ => Γ = [] ∧ ∃ (i_1 z_1 : Nat), [Sl.v true (Value.int IntKind.u32 (z' : Int)), Sl.v true (Value.int IntKind.i64 ((i : Int) + 1))] = [Sl.v true (Value.int IntKind.u32 (z_1 : Int)), Sl.v true (Value.int IntKind.i64 (i_1 : Int))] ∧ i_1 + n' = w.length + 1 ∧ z_1 < 4294967296 ∧ ∀ (j : Nat), z_1.testBit j = true ↔ ∃ i', i' < i_1 ∧ at_.testBit i' = true ∧ Stp (Eb rows) w y i' j := by
      intro z' h1 h2
      refine ⟨f - 1, by omega, Up.here ⟨rfl, i + 1, z', rfl, by omega, h1, fun j => ?_⟩⟩
      rw [h2, hzj]
      constructor
      · rintro (⟨i', q1, q2⟩ | q)
        · exact ⟨i', by omega, q2⟩
        · exact ⟨i, by omega, q⟩
      · rintro ⟨i', q1, q2⟩
        by_cases e : i' = i
        · subst e; exact .inr q2
        · exact .inl ⟨i', by omega, q2⟩
    simp (disch := omega) only [wrap_id]
    refine ⟨by omega, fun h0 => Up.here ?_, fun h0 => ⟨fun ht => ?_, fun ht => ?_⟩⟩
    · have h0 : at_.testBit i = false := by cases e : at_.testBit i <;> simp_all
      exact fin z hz fun j => by rw [h0]; simp
    · have h0 : at_.testBit i = true := by cases e : at_.testBit i <;> simp_all
      obtain ⟨hy0, hy1⟩ := hy ht
      have hyl : y.n.toNat < rows.length := by rw [hT.len]; omega
      have hrl := hT.at' hyl
      have hrs := hT.small _ (List.getElem_mem hyl)
      refine s_ld (o := 0) (j := 5) (cells_lk (lk_r _ _ _ _ hb)) (by simp [endsV]) (by simp) ?_
      simp -implicitDefEqProofs only [endsV, go_sem, Nat.reduceBEq, Nat.reduceAdd, Nat.reduceSub, Nat.reduceMul, Nat.reduceLeDiff, reduceCtorEq, ↓reduceIte, Int.reduceLT, Int.reduceLE, Int.reduceEq, Int.reduceNe]
      obtain ⟨b1, o1, hA1, A2, c2, hs2, hc1⟩ := ho.rowU hyl
      refine s_idx hA1 hy0 (by omega) ?_
      simp -implicitDefEqProofs only [go_sem, Nat.reduceBEq, Nat.reduceAdd, Nat.reduceSub, Nat.reduceMul, Nat.reduceLeDiff, reduceCtorEq, ↓reduceIte, Int.reduceLT, Int.reduceLE, Int.reduceEq, Int.reduceNe]
      refine s_ld0 (hc1 _ (lk_r _ _)) (by simp) (by simp) ?_
      simp -implicitDefEqProofs only [go_sem, Nat.reduceBEq, Nat.reduceAdd, Nat.reduceSub, Nat.reduceMul, Nat.reduceLeDiff, reduceCtorEq, ↓reduceIte, Int.reduceLT, Int.reduceLE, Int.reduceEq, Int.reduceNe]
      obtain ⟨b2, o2, hA2, hc2⟩ := hs2.u32 (i := i) (by omega)
      refine s_idx hA2 (by omega) (by omega) ?_
      simp -implicitDefEqProofs only [go_sem, Nat.reduceBEq, Nat.reduceAdd, Nat.reduceSub, Nat.reduceMul, Nat.reduceLeDiff, reduceCtorEq, ↓reduceIte, Int.reduceLT, Int.reduceLE, Int.reduceEq, Int.reduceNe]
      refine s_ld0 (hc2 _ (lk_r _ _)) (by simp) (by simp) ?_
      have hx := hrs _ (List.getElem_mem (show i < rows[y.n.toNat].length by omega))
      simp -implicitDefEqProofs only [bit_or uns32 hz hx, fnC_eq, go_sem, Nat.reduceBEq, Nat.reduceAdd, Nat.reduceSub, Nat.reduceMul, Nat.reduceLeDiff, reduceCtorEq, ↓reduceIte, Int.reduceLT, Int.reduceLE, Int.reduceEq, Int.reduceNe]
      simp (disch := omega) only [wrap_id]
      refine Up.here (fin _ (Nat.or_lt_two_pow (n := 32) hz hx) fun j => ?_)
      rw [Nat.testBit_or, Bool.or_eq_true]
      refine or_congr_right ⟨fun h => ⟨h0, ?_⟩, fun h => ?_⟩
      · simp only [Stp, ht]
        exact ⟨hy0, _, _, List.getElem?_eq_getElem hyl, List.getElem?_eq_getElem (by omega), h⟩
      · simp only [Stp, ht] at h
        obtain ⟨_, _, row, x, h1, h2, h3⟩ := h
        rw [List.getElem?_eq_getElem hyl] at h1
        simp only [Option.some.injEq] at h1
        subst h1
        rw [List.getElem?_eq_getElem (by omega)] at h2
        simp only [Option.some.injEq] at h2
        subst h2
        exact h3
    · have h0 : at_.testBit i = true := by cases e : at_.testBit i <;> simp_all
      refine s_ld (o := 0) (j := 4) (cells_lk (lk_r _ _ _ _ hb)) (by simp [endsV]) (by simp) ?_
      by_cases hil : i < w.length
      · have e1 : decide ((i : Int) < (w.length : Int)) = true := by simpa using hil
        simp -implicitDefEqProofs only [endsV, e1, go_sem, Nat.reduceBEq, Nat.reduceAdd, Nat.reduceSub, Nat.reduceMul, Nat.reduceLeDiff, reduceCtorEq, ↓reduceIte, Int.reduceLT, Int.reduceLE, Int.reduceEq, Int.reduceNe]
        refine s_ld (o := 0) (j := 4) (cells_lk (lk_r _ _ _ _ hb)) (by simp [endsV]) (by simp) ?_
        simp -implicitDefEqProofs only [endsV, go_sem, Nat.reduceBEq, Nat.reduceAdd, Nat.reduceSub, Nat.reduceMul, Nat.reduceLeDiff, reduceCtorEq, ↓reduceIte, Int.reduceLT, Int.reduceLE, Int.reduceEq, Int.reduceNe]
        obtain ⟨b1, o1, hA1, hc1⟩ := hw.int hil
        refine s_idx hA1 (by omega) (by omega) ?_
        simp -implicitDefEqProofs only [go_sem, Nat.reduceBEq, Nat.reduceAdd, Nat.reduceSub, Nat.reduceMul, Nat.reduceLeDiff, reduceCtorEq, ↓reduceIte, Int.reduceLT, Int.reduceLE, Int.reduceEq, Int.reduceNe]
        refine s_ld0 (hc1 _ (lk_r _ _)) (by simp) (by simp) ?_
        have hp : 2 ^ (i + 1) < 4294967296 := Nat.pow_lt_pow_right (a := 2) (n := 32) (by omega) (by omega)
        have hsh : ishiftV .shl .u32 1 ((i : Int) + 1) = .int .u32 ((2 ^ (i + 1) : Nat) : Int) := bit_shl uns32 (i := i + 1) (by omega)
        simp -implicitDefEqProofs only [go_sem, Nat.reduceBEq, Nat.reduceAdd, Nat.reduceSub, Nat.reduceMul, Nat.reduceLeDiff, reduceCtorEq, ↓reduceIte, Int.reduceLT, Int.reduceLE, Int.reduceEq, Int.reduceNe]
        simp (disch := omega) only [wrap_id]
        refine ⟨fun heq => ?_, fun hne => Up.here ?_⟩
        · simp -implicitDefEqProofs only [hsh, bit_or uns32 hz hp, fnC_eq, go_sem, Nat.reduceBEq, Nat.reduceAdd, Nat.reduceSub, Nat.reduceMul, Nat.reduceLeDiff, reduceCtorEq, ↓reduceIte, Int.reduceLT, Int.reduceLE, Int.reduceEq, Int.reduceNe]
          simp (disch := omega) only [wrap_id]
          refine ⟨by omega, Up.here (fin _ (Nat.or_lt_two_pow (n := 32) hz hp) fun j => ?_)⟩
          rw [Nat.testBit_or, Bool.or_eq_true, Nat.testBit_two_pow]
          refine or_congr_right ?_
          simp only [Stp, ht, if_true, h0, true_and, List.getElem?_eq_getElem hil, heq, decide_eq_true_eq]
          exact ⟨fun h => h.symm, fun h => h.symm⟩
        · refine fin z hz fun j => ?_
          simp [Stp, ht, List.getElem?_eq_getElem hil, hne]
      · have e1 : decide ((i : Int) < (w.length : Int)) = false := by simpa using hil
        simp -implicitDefEqProofs only [endsV, e1, go_sem, Nat.reduceBEq, Nat.reduceAdd, Nat.reduceSub, Nat.reduceMul, Nat.reduceLeDiff, reduceCtorEq, ↓reduceIte, Int.reduceLT, Int.reduceLE, Int.reduceEq, Int.reduceNe]
        refine s_ldg0 (cs := [.slice none 0 0]) (by simp) (by simp) (by simp) (by simp) ?_
        simp -implicitDefEqProofs only [go_sem, Nat.reduceBEq, Nat.reduceAdd, Nat.reduceSub, Nat.reduceMul, Nat.reduceLeDiff, reduceCtorEq, ↓reduceIte, Int.reduceLT, Int.reduceLE, Int.reduceEq, Int.reduceNe]
        refine s_idxg (b := 0) (o := 0) (by simp) ?_
        simp -implicitDefEqProofs only [go_sem, Nat.reduceBEq, Nat.reduceAdd, Nat.reduceSub, Nat.reduceMul, Nat.reduceLeDiff, reduceCtorEq, ↓reduceIte, Int.reduceLT, Int.reduceLE, Int.reduceEq, Int.reduceNe]
        refine s_ldg0 (cs := [.int .i64 0]) (by simp) (by simp) (by simp) (by simp) ?_
        simp -implicitDefEqProofs only [go_sem, Nat.reduceBEq, Nat.reduceAdd, Nat.reduceSub, Nat.reduceMul, Nat.reduceLeDiff, reduceCtorEq, ↓reduceIte, Int.reduceLT, Int.reduceLE, Int.reduceEq, Int.reduceNe]
        simp (disch := omega) only [wrap_id]
        refine Up.here (fin z hz fun j => ?_)
        simp [Stp, ht, List.getElem?_eq_none (show w.length ≤ i by omega)]
  · have hi : i = w.length + 1 := by omega
    subst hR
    subst hi
    refine Up.here ⟨rfl, z, rfl, hz, fun j => ?_⟩
    rw [hzj]
    simp only [Nat.lt_succ_iff]
theorem mean_is {Γr : Ctx} {b : Nat} {T : TypeId} {g : Gr} {A W O : Option Addr} {c d e : Nat} {w : List Int} {rows : List (List U32)} (hb : lk Γr b (.cells (endsV g A c W d w O rows.length e).toArray T (0, 0)))
    (hw : SlOk (lk Γr) W d w) (ho : SlOk (lk Γr) O e rows) {n : Nat} (hT : TabOk rows n (w.length + 1)) (hl : w.length ≤ 30) (y : Sy) (hy : y.t = false → 0 ≤ y.n ∧ y.n < n) (i j : Nat) (hi : i ≤ w.length) :
    Ret Try.prog 183 [.pointer (some ⟨b, 0, none⟩), .agg #[.bool y.t, .int .i64 y.n], .int .i64 i, .int .i64 j] Γr [] (fun v Γ => Γ = [] ∧ ∃ q : Bool, v = .bool q ∧ (q = true ↔ Stp (Eb rows) w y i j)) := by
  generalize hR : (fun (v : Value) (Γ : Ctx) => Γ = [] ∧ _) = R
  refine ret_of_vc tr183 (Nat.le_of_ble_eq_true rfl) ?_
  have hp : 2 ^ i < 4294967296 := Nat.pow_lt_pow_right (a := 2) (n := 32) (by omega) (by omega)
  simp -implicitDefEqProofs only [S183, S183_0, bit_shl uns32 (show i < 32 by omega), go_sem, Nat.reduceBEq, Nat.reduceAdd, Nat.reduceSub, Nat.reduceMul, Nat.reduceLeDiff, reduceCtorEq, ↓reduceIte, Int.reduceLT, Int.reduceLE, Int.reduceEq, Int.reduceNe]
  intro b0
  refine ⟨by omega, ?_⟩
  refine CallVC.read (mean_after (lk_r _ _ _ _ hb) (hw.mono (lk_r _ _)) (ho.mono (lk_r _ _)) hT hl y hy (2 ^ i) hp) ?_
  rintro v Γ' ⟨rfl, z, rfl, hz, hzj⟩
  simp -implicitDefEqProofs only [bit_shr uns32 hz, bit_get uns32 hz, fnC_eq, go_sem, Nat.reduceBEq, Nat.reduceAdd, Nat.reduceSub, Nat.reduceMul, Nat.reduceLeDiff, reduceCtorEq, ↓reduceIte, Int.reduceLT, Int.reduceLE, Int.reduceEq, Int.reduceNe]
  refine ⟨by omega, Up.here ?_⟩
  subst hR
  refine ⟨rfl, _, rfl, ?_⟩
  have h1 : (decide ((((z.testBit j).toNat : Nat) : Int) = 1) = true) ↔ z.testBit j = true := by cases z.testBit j <;> simp
  rw [h1, hzj]
  constructor
  · rintro ⟨i', _, h2, h3⟩
    rw [Nat.testBit_two_pow] at h2
    simp only [decide_eq_true_eq] at h2
    subst h2
    exact h3
  · intro h
    exact ⟨i, hi, by rw [Nat.testBit_two_pow]; simp, h⟩
end Go.Proofs.Ytniobbepliknmaa.V
/- The text of parlance/parlref5.grid[bool] as a statement (slots: 0 a, 1 b, 2 a, 3 b, 5 out, 6 i); no condition. -/
namespace Go.Proofs.Ytniobbepliknmaa.V
open Go
def S151_1 : Stmt :=
  Stmt.seq
  (Stmt.region [SOper.mk (some 12) none (SOp.ibin BinOp.lss (Operand.tmp 11) (Operand.tmp 10))] [1, 5, 10, 11, 12])
  (Stmt.seq (Stmt.cond (Operand.tmp 12) Stmt.skip (Stmt.exit 0))
    (Stmt.seq
      (Stmt.block 1
        (Stmt.seq
          (Stmt.region
            [SOper.mk (some 13) none (SOp.mv (Operand.tmp 11)), SOper.mk (some 6) none (SOp.mv (Operand.tmp 13))]
            [1, 5, 6, 10, 11])
          (Stmt.region
            [SOper.mk (some 14) none (SOp.mv (Operand.tmp 5)), SOper.mk (some 15) none (SOp.mv (Operand.tmp 6)),
              SOper.mk (some 16) none (SOp.mv (Operand.tmp 1)),
              SOper.mk (some 17) none (SOp.mk 4 1 1 (Value.bool false) (Operand.tmp 16) (Operand.tmp 16)),
              SOper.mk (some 18) none (SOp.idx 1 (Operand.tmp 14) (Operand.tmp 15)),
              SOper.mk none none (SOp.store 1 (Operand.tmp 18) (Operand.tmp 17))]
            [1, 5, 10, 11])))
      (Stmt.region
        [SOper.mk (some 19) none (SOp.ibin BinOp.add (Operand.tmp 11) (Operand.const (Value.int IntKind.i64 1))),
          SOper.mk (some 11) none (SOp.mv (Operand.tmp 19))]
        [1, 5, 10, 11])))
def S151_0 : Stmt :=
  Stmt.seq (Stmt.region [SOper.mk (some 4) none (SOp.mv (Operand.const (Value.slice none 0 0)))] [0, 1])
  (Stmt.seq
    (Stmt.region
      [SOper.mk (some 7) none (SOp.mv (Operand.tmp 0)),
        SOper.mk (some 8) none (SOp.mk 22 1 24 (Value.slice none 0 0) (Operand.tmp 7) (Operand.tmp 7)),
        SOper.mk (some 5) none (SOp.mv (Operand.tmp 8))]
      [1, 5])
    (Stmt.seq
      (Stmt.seq
        (Stmt.region
          [SOper.mk (some 9) none (SOp.mv (Operand.tmp 5)), SOper.mk (some 10) none (SOp.len false (Operand.tmp 9)),
            SOper.mk (some 11) none (SOp.mv (Operand.const (Value.int IntKind.i64 0)))]
          [1, 5, 10, 11])
        (Stmt.block 0 (Stmt.loop S151_1 [11] [1, 5, 10])))
      (Stmt.seq
        (Stmt.region
          [SOper.mk (some 20) none (SOp.mv (Operand.tmp 5)), SOper.mk (some 4) none (SOp.mv (Operand.tmp 20))] [4])
        Stmt.ret)))
def S151 : FnS := ⟨21, [(4, none)], S151_0⟩
theorem tr151 : trFn Try.prog 151 [] [[0, 1], [1, 5], [1, 5, 10, 11], [11], [1, 5, 10], [1, 5, 10, 11, 12], [1, 5, 6, 10, 11], [1, 5, 10, 11], [1, 5, 10, 11], [4]] = some S151 := by kernel_rfl
end Go.Proofs.Ytniobbepliknmaa.V
/- Grids that are made: parlref5.grid walked; no condition. -/
namespace Go.Proofs.Ytniobbepliknmaa.V
open Go
set_option linter.unusedVariables false
set_option linter.unusedSimpArgs false
attribute [local go_sem] e_seq e_region e_quiet e_join e_loop e_cond e_block e_exit e_ret e_skip e_fin e_kseq e_snrm e_sret e_sex e_bnrm e_bret e_bex e_rnrm e_rret e_res e_condC e_nil e_g e_mv g_mv e_pick g_pick pickC_eq e_ibin g_ibin ibinC_eq e_sbin g_sbin e_beq g_beq beqC_eq e_nilq g_nilq nilqC_sl nilqC_pt nilqC_mp e_un g_un unC_not unC_neg e_conv g_conv convC_eq e_fld g_fld fldC_ref fldC_ptr e_nilCheck g_nilCheck nilCheckC_ref nilCheckC_ptr nilCheckC_fun e_field g_field fieldC_eq e_len g_len lenC_sl lenC_str e_extract g_extract extractC_eq e_mkFunc e_build g_build e_idiv g_idiv idivC_eq e_ishift g_ishift ishiftC_eq e_idx g_idx e_idxA g_idxA e_load g_load loadC_ref loadC_ptr loadB_eq e_slc g_slc e_box boxC_loc boxC_esc e_alloc allocC_loc allocC_esc e_buildS e_store storeC_ref storeC_ptr storeB_eq e_append e_appz e_mk mkC_eq e_call callC_eq e_fn g_fn fnC_eq fnV_min' fnV_max' fnV_rune' e_q g_q e_a e_n g_call g_box g_alloc g_buildS g_store g_append g_mk g_a g_n g_dead e_dead e_callK e_drawn e_tree e_finJ e_tk e_tfin e_tno e_nbt_q e_nbt_qn e_nbt_a e_nbt_an e_nbt_fin e_early_nil e_early_t e_early_f e_nob_nil e_nob_none e_nob_some isBox_dead isBox_v isBox_ref e_dnil e_dk e_ek e_finB vcOps_vc1 e_dcons e_tq e_ekt e_tearly e_talt e_dearly look_nil look_c proj_nil proj_c looks_nil looks_c zip_nil zip_c val_tmp val_const val_func slv_v slv_box slv_ref slot_tmp slot_const slot_func slotL_v slotL_box slotL_ref put_some put_none updBox_c boxSet_box gd_eq slotVals_nil slotVals_c slotVals_b boxV_box boxOn_box slotsOn_nil slotsOn_c slotsOn_b resV_one resV_two vals_nil vals_c allOn_nil allOn_c partOn_nil partOn_c partVals_nil partVals_c fits_nil fits_c fillL_nil fillL_c mkv_one mkv_agg cellsV_agg cellsV_int cellsV_bool cellsV_slice cellsV_string cellsV_pointer cellsV_func cellsV_nilf cellsV_map one'_nil one'_c oc_int oc_bool oc_slice oc_string oc_pointer oc_func oc_nilf oc_map setC_eq iv_add iv_sub iv_mul iv_eql iv_neq iv_lss iv_leq iv_gtr iv_geq iok_add iok_sub iok_mul iok_eql iok_neq iok_lss iok_leq iok_gtr iok_geq pickV_bool args0_nil args0_c bnd_none bnd_some imp_bt imp_bf imp_ebt imp_ebf imp_eb1 imp_np imp_pp beq_tt beq_tf beq_ft beq_ff cond_or cond_and e_round e_meet Int.le_refl Int.toNat_zero decide_true decide_false Bool.or_false Bool.false_or Bool.true_or Bool.or_true Bool.and_false Bool.false_and Bool.bne_false Bool.bne_true beq_iff_eq Int.cast_ofNat_Int not_false_eq_true not_true_eq_false false_and and_false false_implies true_implies true_and and_true Bool.true_and Bool.and_true Bool.not_true Bool.not_false forall_const implies_true List.take_zero List.drop_zero List.take_succ_cons List.drop_succ_cons List.take_nil List.drop_nil List.length_cons List.length_nil List.nil_append List.append_nil List.cons_append Int.toNat_natCast decide_eq_true_eq decide_eq_false_iff_not cond_true cond_false and_self List.getElem?_cons_zero List.getElem?_cons_succ List.set_cons_zero List.set_cons_succ Option.some.injEq exists_eq_left' Nat.zero_add Nat.add_zero Nat.mul_one imp_self true_or or_true or_false false_or Bool.or_eq_true Bool.or_eq_false_iff Bool.and_eq_true Bool.and_eq_false_iff Bool.not_eq_true' Bool.not_eq_false'

/-- m rows of n noughts, of which k are made -/
def part {α : Type} (z : α) (m n k : Nat) : List (List α) := List.replicate k (List.replicate n z) ++ List.replicate (m - k) []
theorem part_len {α : Type} (z : α) {m n k : Nat} (h : k ≤ m) : (part z m n k).length = m := by simp [part]; omega
theorem part_set {α : Type} (z : α) {m n k : Nat} (h : k < m) : (part z m n k).set k (List.replicate n z) = part z m n (k + 1) := by
  unfold part
  obtain ⟨d, hd⟩ : ∃ d, m - k = d + 1 := ⟨m - k - 1, by omega⟩
  rw [hd, show m - (k + 1) = d by omega, List.replicate_succ, List.set_append_right _ _ (by simp), List.replicate_succ']
  simp

theorem grid_bool {Γr : Ctx} (a n : Nat) (ha : a ≤ 1000) (hn : n ≤ 100000) :
    Ret Try.prog 151 [.int .i64 a, .int .i64 n] Γr [] (fun v Γ => ∃ g b, Γ = [g] ∧ v = .slice (some ⟨b, 0, none⟩) a a ∧ Grid g b 22 4 (List.replicate a (List.replicate n false))) := by
  generalize hR : (fun (v : Value) (Γ : Ctx) => ∃ g b, _) = R
  refine ret_of_vc tr151 (Nat.le_of_ble_eq_true rfl) ?_
  simp -implicitDefEqProofs only [S151, S151_0, go_sem, Nat.reduceBEq, Nat.reduceAdd, Nat.reduceSub, Nat.reduceMul, Nat.reduceLeDiff, reduceCtorEq, ↓reduceIte, Int.reduceLT, Int.reduceLE, Int.reduceEq, Int.reduceNe]
  refine ⟨by omega, by omega, fun b => ?_⟩
  refine s_loop (fun f vs Γ => ∃ g, Γ = [g] ∧ ∃ k : Nat, vs = [.v true (.int .i64 k)] ∧ k + f = a ∧ Grid g b 22 4 (part false a n k)) a
    (Up.here ⟨_, rfl, 0, rfl, by omega, by have := Grid.made (α := Bool) b 22 4 (m := a) (by omega); simpa [part] using this⟩) ?_
  rintro f vs Γ ⟨g, rfl, k, rfl, hkf, hG⟩
  simp -implicitDefEqProofs only [S151_1, go_sem, Nat.reduceBEq, Nat.reduceAdd, Nat.reduceSub, Nat.reduceMul, Nat.reduceLeDiff, reduceCtorEq, ↓reduceIte, Int.reduceLT, Int.reduceLE, Int.reduceEq, Int.reduceNe]
  refine ⟨fun hlt => ?_, fun hge => ?_⟩
  · have hk : k < a := by omega
    refine ⟨by omega, by omega, fun b2 => ?_⟩
    refine s_idx rfl (by omega) (by omega) ?_
    simp -implicitDefEqProofs only [go_sem, Nat.reduceBEq, Nat.reduceAdd, Nat.reduceSub, Nat.reduceMul, Nat.reduceLeDiff, reduceCtorEq, ↓reduceIte, Int.reduceLT, Int.reduceLE, Int.reduceEq, Int.reduceNe]
    refine s_storeG (ix := 1) (k := b2) (List.replicate n false) (by simp) rfl hG (by rw [part_len _ (by omega)]; omega) (by simp; omega) ?_
    intro g' hput
    simp -implicitDefEqProofs only [go_sem, Nat.reduceBEq, Nat.reduceAdd, Nat.reduceSub, Nat.reduceMul, Nat.reduceLeDiff, reduceCtorEq, ↓reduceIte, Int.reduceLT, Int.reduceLE, Int.reduceEq, Int.reduceNe]
    simp (disch := omega) only [wrap_id]
    refine ⟨f - 1, by omega, Up.apart fun hd => Up.one fun G hG' => ⟨_, rfl, k + 1, rfl, by omega, ?_⟩⟩
    rw [← part_set _ hk]
    exact hput _ _ (Arr.made false b2 4 n) ((List.pairwise_cons.1 hd).1 g' (by simp)) hG'
  · have hk : k = a := by omega
    subst hk
    refine Up.here ?_
    subst hR
    exact ⟨_, b, rfl, rfl, by simpa [part] using hG⟩
end Go.Proofs.Ytniobbepliknmaa.V
/- The text of cmp.Compare[int] as a statement (slots: 0 x, 1 y, 2 x, 3 y, 5 xNaN, 6 yNaN); no condition. -/
namespace Go.Proofs.Ytniobbepliknmaa.V
open Go
def S105_0 : Stmt :=
  Stmt.seq (Stmt.region [SOper.mk (some 4) none (SOp.mv (Operand.const (Value.int IntKind.i64 0)))] [0, 1])
  (Stmt.seq
    (Stmt.region
      [SOper.mk (some 7) none (SOp.mv (Operand.tmp 0)),
        SOper.mk (some 8) none (SOp.call (Operand.func 170) [Operand.tmp 7]),
        SOper.mk (some 5) none (SOp.mv (Operand.tmp 8))]
      [0, 1, 5])
    (Stmt.seq
      (Stmt.region
        [SOper.mk (some 9) none (SOp.mv (Operand.tmp 1)),
          SOper.mk (some 10) none (SOp.call (Operand.func 170) [Operand.tmp 9]),
          SOper.mk (some 6) none (SOp.mv (Operand.tmp 10))]
        [0, 1, 5, 6])
      (Stmt.seq
        (Stmt.seq (Stmt.region [SOper.mk (some 11) none (SOp.mv (Operand.tmp 5))] [0, 1, 6, 11])
          (Stmt.cond (Operand.tmp 11)
            (Stmt.seq
              (Stmt.seq (Stmt.region [SOper.mk (some 12) none (SOp.mv (Operand.tmp 6))] [12])
                (Stmt.cond (Operand.tmp 12)
                  (Stmt.seq
                    (Stmt.region [SOper.mk (some 4) none (SOp.mv (Operand.const (Value.int IntKind.i64 0)))] [4])
                    Stmt.ret)
                  Stmt.skip))
              (Stmt.seq (Stmt.region [SOper.mk (some 4) none (SOp.mv (Operand.const (Value.int IntKind.i64 (-1))))] [4])
                Stmt.ret))
            Stmt.skip))
        (Stmt.seq
          (Stmt.seq (Stmt.region [SOper.mk (some 13) none (SOp.mv (Operand.tmp 6))] [0, 1, 13])
            (Stmt.cond (Operand.tmp 13)
              (Stmt.seq (Stmt.region [SOper.mk (some 4) none (SOp.mv (Operand.const (Value.int IntKind.i64 1)))] [4])
                Stmt.ret)
              Stmt.skip))
          (Stmt.seq
            (Stmt.seq
              (Stmt.region
                [SOper.mk (some 14) none (SOp.mv (Operand.tmp 0)), SOper.mk (some 15) none (SOp.mv (Operand.tmp 1)),
                  SOper.mk (some 16) none (SOp.ibin BinOp.lss (Operand.tmp 14) (Operand.tmp 15))]
                [0, 1, 16])
              (Stmt.cond (Operand.tmp 16)
                (Stmt.seq
                  (Stmt.region [SOper.mk (some 4) none (SOp.mv (Operand.const (Value.int IntKind.i64 (-1))))] [4])
                  Stmt.ret)
                Stmt.skip))
            (Stmt.seq
              (Stmt.seq
                (Stmt.region
                  [SOper.mk (some 17) none (SOp.mv (Operand.tmp 0)), SOper.mk (some 18) none (SOp.mv (Operand.tmp 1)),
                    SOper.mk (some 19) none (SOp.ibin BinOp.gtr (Operand.tmp 17) (Operand.tmp 18))]
                  [19])
                (Stmt.cond (Operand.tmp 19)
                  (Stmt.seq
                    (Stmt.region [SOper.mk (some 4) none (SOp.mv (Operand.const (Value.int IntKind.i64 1)))] [4])
                    Stmt.ret)
                  Stmt.skip))
              (Stmt.seq (Stmt.region [SOper.mk (some 4) none (SOp.mv (Operand.const (Value.int IntKind.i64 0)))] [4])
                Stmt.ret)))))))
def S105 : FnS := ⟨20, [(4, none)], S105_0⟩
theorem tr105 : trFn Try.prog 105 [] [[0, 1], [0, 1, 5], [0, 1, 5, 6], [0, 1, 6, 11], [12], [4], [4], [0, 1, 13], [4], [0, 1, 16], [4], [19], [4], [4]] = some S105 := by kernel_rfl
end Go.Proofs.Ytniobbepliknmaa.V
