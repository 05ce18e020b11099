/- The text of parlance/draw.Order as a statement (slots: 0 n, 1 coins, 2 n, 3 coins, 7 left, 8 out, 9 i, 10 used, 11 i, 12 k, 13 e); no condition. -/
import Derived.Test.YtniobbepliknmaaVh
import Derived.Test.YtniobbepliknmaaProg
namespace Go.Proofs.Ytniobbepliknmaa.V
open Go
def S27_1 : Stmt :=
  Stmt.seq
  (Stmt.region [SOper.mk (some 22) none (SOp.ibin BinOp.lss (Operand.tmp 21) (Operand.tmp 20))] [1, 7, 8, 20, 21, 22])
  (Stmt.seq (Stmt.cond (Operand.tmp 22) Stmt.skip (Stmt.exit 0))
    (Stmt.seq
      (Stmt.block 1
        (Stmt.seq
          (Stmt.region
            [SOper.mk (some 23) none (SOp.mv (Operand.tmp 21)), SOper.mk (some 9) none (SOp.mv (Operand.tmp 23))]
            [1, 7, 8, 9, 20, 21])
          (Stmt.region
            [SOper.mk (some 24) none (SOp.mv (Operand.tmp 7)), SOper.mk (some 25) none (SOp.mv (Operand.tmp 9)),
              SOper.mk (some 26) none (SOp.buildS 3 1 [Value.int IntKind.i64 0] [(0, 1, Operand.tmp 25)]),
              SOper.mk (some 27) none (SOp.append 29 3 1 8 (Value.int IntKind.i64 0) (Operand.tmp 24) (Operand.tmp 26)),
              SOper.mk (some 7) none (SOp.mv (Operand.tmp 27))]
            [1, 7, 8, 20, 21])))
      (Stmt.region
        [SOper.mk (some 28) none (SOp.ibin BinOp.add (Operand.tmp 21) (Operand.const (Value.int IntKind.i64 1))),
          SOper.mk (some 21) none (SOp.mv (Operand.tmp 28))]
        [1, 7, 8, 20, 21])))
def S27_2 : Stmt :=
  Stmt.seq
  (Stmt.seq
    (Stmt.region
      [SOper.mk (some 29) none (SOp.mv (Operand.tmp 7)), SOper.mk (some 30) none (SOp.len false (Operand.tmp 29)),
        SOper.mk (some 31) none (SOp.ibin BinOp.gtr (Operand.tmp 30) (Operand.const (Value.int IntKind.i64 0)))]
      [1, 7, 8, 10, 31])
    (Stmt.cond (Operand.tmp 31) Stmt.skip (Stmt.exit 2)))
  (Stmt.block 3
    (Stmt.seq
      (Stmt.region
        [SOper.mk (some 33) none (SOp.mv (Operand.tmp 7)), SOper.mk (some 34) none (SOp.len false (Operand.tmp 33)),
          SOper.mk (some 35) none (SOp.mv (Operand.tmp 1)), SOper.mk (some 36) none (SOp.mv (Operand.tmp 10)),
          SOper.mk (some 37) none (SOp.slc 1 (Operand.tmp 35) (some (Operand.tmp 36)) none none),
          SOper.mk (some 38) none (SOp.call (Operand.func 21) [Operand.tmp 34, Operand.tmp 37]),
          SOper.mk (some 32) none (SOp.mv (Operand.tmp 38)), SOper.mk (some 39) none (SOp.extract 0 (Operand.tmp 32)),
          SOper.mk (some 40) none (SOp.extract 1 (Operand.tmp 32)),
          SOper.mk (some 41) none (SOp.extract 2 (Operand.tmp 32)), SOper.mk (some 11) none (SOp.mv (Operand.tmp 39)),
          SOper.mk (some 12) none (SOp.mv (Operand.tmp 40)), SOper.mk (some 13) none (SOp.mv (Operand.tmp 41))]
        [1, 7, 8, 10, 11, 12, 13])
      (Stmt.seq
        (Stmt.seq
          (Stmt.region
            [SOper.mk (some 42) none (SOp.mv (Operand.tmp 13)),
              SOper.mk (some 43) none (SOp.ibin BinOp.neq (Operand.tmp 42) (Operand.const (Value.int IntKind.i64 0)))]
            [1, 7, 8, 10, 11, 12, 13, 43])
          (Stmt.cond (Operand.tmp 43)
            (Stmt.seq
              (Stmt.region
                [SOper.mk (some 44) none (SOp.mv (Operand.tmp 13)),
                  SOper.mk (some 4) none (SOp.mv (Operand.const (Value.slice none 0 0))),
                  SOper.mk (some 5) none (SOp.mv (Operand.const (Value.int IntKind.i64 0))),
                  SOper.mk (some 6) none (SOp.mv (Operand.tmp 44))]
                [4, 5, 6])
              Stmt.ret)
            Stmt.skip))
        (Stmt.seq
          (Stmt.region
            [SOper.mk (some 45) none (SOp.mv (Operand.tmp 10)), SOper.mk (some 46) none (SOp.mv (Operand.tmp 12)),
              SOper.mk (some 47) none (SOp.ibin BinOp.add (Operand.tmp 45) (Operand.tmp 46)),
              SOper.mk (some 10) none (SOp.mv (Operand.tmp 47))]
            [1, 7, 8, 10, 11])
          (Stmt.seq
            (Stmt.region
              [SOper.mk (some 48) none (SOp.mv (Operand.tmp 8)), SOper.mk (some 49) none (SOp.mv (Operand.tmp 7)),
                SOper.mk (some 50) none (SOp.mv (Operand.tmp 11)),
                SOper.mk (some 51) none (SOp.idx 1 (Operand.tmp 49) (Operand.tmp 50)),
                SOper.mk (some 52) none (SOp.load false 1 (Operand.tmp 51)),
                SOper.mk (some 53) none (SOp.buildS 3 1 [Value.int IntKind.i64 0] [(0, 1, Operand.tmp 52)]),
                SOper.mk (some 54) none
                  (SOp.append 29 3 1 8 (Value.int IntKind.i64 0) (Operand.tmp 48) (Operand.tmp 53)),
                SOper.mk (some 8) none (SOp.mv (Operand.tmp 54))]
              [1, 7, 8, 10, 11])
            (Stmt.drawn
              [(false, SOper.mk (some 55) none (SOp.mv (Operand.tmp 7))),
                (false, SOper.mk (some 56) none (SOp.mv (Operand.tmp 11))),
                (false, SOper.mk (some 57) none (SOp.slc 1 (Operand.tmp 55) none (some (Operand.tmp 56)) none)),
                (false, SOper.mk (some 58) none (SOp.mv (Operand.tmp 7))),
                (false, SOper.mk (some 59) none (SOp.mv (Operand.tmp 11))),
                (false,
                  SOper.mk (some 60) none
                    (SOp.ibin BinOp.add (Operand.tmp 59) (Operand.const (Value.int IntKind.i64 1)))),
                (false, SOper.mk (some 61) none (SOp.slc 1 (Operand.tmp 58) (some (Operand.tmp 60)) none none)),
                (false,
                  SOper.mk (some 62) none
                    (SOp.append 29 3 1 8 (Value.int IntKind.i64 0) (Operand.tmp 57) (Operand.tmp 61))),
                (false, SOper.mk (some 7) none (SOp.mv (Operand.tmp 62)))]
              [1, 7, 8, 10]))))))
def S27_0 : Stmt :=
  Stmt.seq
  (Stmt.region
    [SOper.mk (some 4) none (SOp.mv (Operand.const (Value.slice none 0 0))),
      SOper.mk (some 5) none (SOp.mv (Operand.const (Value.int IntKind.i64 0))),
      SOper.mk (some 6) none (SOp.mv (Operand.const (Value.int IntKind.i64 0)))]
    [0, 1])
  (Stmt.seq
    (Stmt.seq
      (Stmt.region
        [SOper.mk (some 14) none (SOp.mv (Operand.tmp 0)),
          SOper.mk (some 15) none (SOp.ibin BinOp.lss (Operand.tmp 14) (Operand.const (Value.int IntKind.i64 0))),
          SOper.mk (some 16) none (SOp.mv (Operand.tmp 15)),
          SOper.mk (some 17) (some (16, false)) (SOp.mv (Operand.tmp 0)),
          SOper.mk (some 18) (some (16, false))
            (SOp.ibin BinOp.gtr (Operand.tmp 17) (Operand.const (Value.int IntKind.i64 100))),
          SOper.mk (some 19) none (SOp.pick (Operand.tmp 16) (Operand.const (Value.bool true)) (Operand.tmp 18))]
        [0, 1, 19])
      (Stmt.cond (Operand.tmp 19)
        (Stmt.seq
          (Stmt.region
            [SOper.mk (some 4) none (SOp.mv (Operand.const (Value.slice none 0 0))),
              SOper.mk (some 5) none (SOp.mv (Operand.const (Value.int IntKind.i64 0))),
              SOper.mk (some 6) none (SOp.mv (Operand.const (Value.int IntKind.i64 1)))]
            [4, 5, 6])
          Stmt.ret)
        Stmt.skip))
    (Stmt.seq
      (Stmt.region
        [SOper.mk (some 7) none (SOp.mv (Operand.const (Value.slice none 0 0))),
          SOper.mk (some 8) none (SOp.mv (Operand.const (Value.slice none 0 0)))]
        [0, 1, 7, 8])
      (Stmt.seq
        (Stmt.seq
          (Stmt.region
            [SOper.mk (some 20) none (SOp.mv (Operand.tmp 0)),
              SOper.mk (some 21) none (SOp.mv (Operand.const (Value.int IntKind.i64 0)))]
            [1, 7, 8, 20, 21])
          (Stmt.block 0 (Stmt.loop S27_1 [7, 21] [1, 8, 20])))
        (Stmt.seq
          (Stmt.region [SOper.mk (some 10) none (SOp.mv (Operand.const (Value.int IntKind.i64 0)))] [1, 7, 8, 10])
          (Stmt.seq (Stmt.block 2 (Stmt.loop S27_2 [7, 8, 10] [1]))
            (Stmt.seq
              (Stmt.region
                [SOper.mk (some 63) none (SOp.mv (Operand.tmp 8)), SOper.mk (some 64) none (SOp.mv (Operand.tmp 10)),
                  SOper.mk (some 4) none (SOp.mv (Operand.tmp 63)), SOper.mk (some 5) none (SOp.mv (Operand.tmp 64)),
                  SOper.mk (some 6) none (SOp.mv (Operand.const (Value.int IntKind.i64 0)))]
                [4, 5, 6])
              Stmt.ret))))))
def S27 : FnS := ⟨65, [(4, none), (5, none), (6, none)], S27_0⟩
theorem tr27 : trFn Try.prog 27 [] [[0, 1], [0, 1, 19], [4, 5, 6], [0, 1, 7, 8], [1, 7, 8, 20, 21], [7, 21], [1, 8, 20], [1, 7, 8, 20, 21, 22], [1, 7, 8, 9, 20, 21], [1, 7, 8, 20, 21], [1, 7, 8, 20, 21], [1, 7, 8, 10], [7, 8, 10], [1], [1, 7, 8, 10, 31], [1, 7, 8, 10, 11, 12, 13], [1, 7, 8, 10, 11, 12, 13, 43], [4, 5, 6], [1, 7, 8, 10, 11], [1, 7, 8, 10, 11], [1, 7, 8, 10], [0, 1, 2, 3, 4, 5, 6, 7, 8], [], [], [], [0, 1], [], [], [4], [3, 4, 5], [0, 1, 2, 3, 4, 5, 6], [0, 1, 2, 3, 4, 5, 6, 7], [4, 5, 6]] = some S27 := by kernel_rfl
end Go.Proofs.Ytniobbepliknmaa.V
