/- The text of parlance/lens.sums as a statement (slots: 0 l, 1 has, 2 n, 3 l, 4 has, 5 n, 7 at, 8 _, 9 s, 10 next, 11 k, 12 ok, 13 j); no condition. -/
import Derived.Test.YtniobbepliknmaaVh
import Derived.Test.YtniobbepliknmaaProg
namespace Go.Proofs.Ytniobbepliknmaa.V
open Go
def S113_1 : Stmt :=
  Stmt.seq
  (Stmt.region [SOper.mk (some 42) none (SOp.ibin BinOp.lss (Operand.tmp 41) (Operand.tmp 40))]
    [1, 2, 9, 10, 11, 19, 20, 21, 28, 29, 30, 40, 41, 42])
  (Stmt.seq (Stmt.cond (Operand.tmp 42) Stmt.skip (Stmt.exit 4))
    (Stmt.seq
      (Stmt.block 5
        (Stmt.seq
          (Stmt.region
            [SOper.mk (some 43) none (SOp.mv (Operand.tmp 41)), SOper.mk (some 13) none (SOp.mv (Operand.tmp 43))]
            [1, 2, 9, 10, 11, 13, 19, 20, 21, 28, 29, 30, 40, 41])
          (Stmt.region
            [SOper.mk (some 44) none (SOp.mv (Operand.tmp 10)), SOper.mk (some 45) none (SOp.mv (Operand.tmp 11)),
              SOper.mk (some 46) none (SOp.mv (Operand.tmp 13)),
              SOper.mk (some 47) none (SOp.ibin BinOp.add (Operand.tmp 45) (Operand.tmp 46)),
              SOper.mk (some 48) none (SOp.mv (Operand.tmp 10)), SOper.mk (some 49) none (SOp.mv (Operand.tmp 11)),
              SOper.mk (some 50) none (SOp.mv (Operand.tmp 13)),
              SOper.mk (some 51) none (SOp.ibin BinOp.add (Operand.tmp 49) (Operand.tmp 50)),
              SOper.mk (some 52) none (SOp.idx 1 (Operand.tmp 48) (Operand.tmp 51)),
              SOper.mk (some 53) none (SOp.load false 1 (Operand.tmp 52)),
              SOper.mk (some 54) none (SOp.mv (Operand.tmp 53)),
              SOper.mk (some 55) (some (54, false)) (SOp.fld 0 (Operand.tmp 9)),
              SOper.mk (some 56) (some (54, false)) (SOp.load false 1 (Operand.tmp 55)),
              SOper.mk (some 57) (some (54, false)) (SOp.mv (Operand.tmp 56)),
              SOper.mk (some 58) (some (57, true)) (SOp.mv (Operand.tmp 13)),
              SOper.mk (some 59) (some (57, true))
                (SOp.ibin BinOp.eql (Operand.tmp 58) (Operand.const (Value.int IntKind.i64 1))),
              SOper.mk (some 60) (some (54, false))
                (SOp.pick (Operand.tmp 57) (Operand.tmp 59) (Operand.const (Value.bool false))),
              SOper.mk (some 61) none (SOp.pick (Operand.tmp 54) (Operand.const (Value.bool true)) (Operand.tmp 60)),
              SOper.mk (some 62) none (SOp.mv (Operand.tmp 61)),
              SOper.mk (some 63) (some (62, false)) (SOp.fld 0 (Operand.tmp 9)),
              SOper.mk (some 64) (some (62, false)) (SOp.load false 1 (Operand.tmp 63)),
              SOper.mk (some 65) (some (62, false)) (SOp.un UnOp.not (Operand.tmp 64)),
              SOper.mk (some 66) (some (62, false)) (SOp.mv (Operand.tmp 65)),
              SOper.mk (some 67) (some (66, true)) (SOp.mv (Operand.tmp 1)),
              SOper.mk (some 68) (some (66, true)) (SOp.fld 1 (Operand.tmp 9)),
              SOper.mk (some 69) (some (66, true)) (SOp.load false 1 (Operand.tmp 68)),
              SOper.mk (some 70) (some (66, true)) (SOp.idx 1 (Operand.tmp 67) (Operand.tmp 69)),
              SOper.mk (some 71) (some (66, true)) (SOp.load false 1 (Operand.tmp 70)),
              SOper.mk (some 72) (some (66, true)) (SOp.mv (Operand.tmp 13)),
              SOper.mk (some 73) (some (66, true)) (SOp.idx 1 (Operand.tmp 71) (Operand.tmp 72)),
              SOper.mk (some 74) (some (66, true)) (SOp.load false 1 (Operand.tmp 73)),
              SOper.mk (some 75) (some (62, false))
                (SOp.pick (Operand.tmp 66) (Operand.tmp 74) (Operand.const (Value.bool false))),
              SOper.mk (some 76) none (SOp.pick (Operand.tmp 62) (Operand.const (Value.bool true)) (Operand.tmp 75)),
              SOper.mk (some 77) none (SOp.idx 1 (Operand.tmp 44) (Operand.tmp 47)),
              SOper.mk none none (SOp.store 1 (Operand.tmp 77) (Operand.tmp 76))]
            [1, 2, 9, 10, 11, 19, 20, 21, 28, 29, 30, 40, 41])))
      (Stmt.region
        [SOper.mk (some 78) none (SOp.ibin BinOp.add (Operand.tmp 41) (Operand.const (Value.int IntKind.i64 1))),
          SOper.mk (some 41) none (SOp.mv (Operand.tmp 78))]
        [1, 2, 9, 10, 11, 19, 20, 21, 28, 29, 30, 40, 41])))
def S113_2 : Stmt :=
  Stmt.block 3
  (Stmt.seq
    (Stmt.region
      [SOper.mk (some 32) none (SOp.mv (Operand.tmp 30)),
        SOper.mk (some 33) none (SOp.idx 1 (Operand.tmp 28) (Operand.tmp 30)),
        SOper.mk (some 34) none (SOp.load false 1 (Operand.tmp 33)), SOper.mk (some 11) none (SOp.mv (Operand.tmp 32)),
        SOper.mk (some 12) none (SOp.mv (Operand.tmp 34))]
      [1, 2, 9, 10, 11, 12, 19, 20, 21, 28, 29, 30])
    (Stmt.seq
      (Stmt.seq
        (Stmt.region
          [SOper.mk (some 35) none (SOp.mv (Operand.tmp 12)),
            SOper.mk (some 36) none (SOp.un UnOp.not (Operand.tmp 35))]
          [1, 2, 9, 10, 11, 19, 20, 21, 28, 29, 30, 36])
        (Stmt.cond (Operand.tmp 36) (Stmt.exit 3) Stmt.skip))
      (Stmt.seq
        (Stmt.region
          [SOper.mk (some 37) none (SOp.mv (Operand.tmp 2)),
            SOper.mk (some 38) none (SOp.ibin BinOp.add (Operand.tmp 37) (Operand.const (Value.int IntKind.i64 1))),
            SOper.mk (some 39) none (SOp.mv (Operand.tmp 11)),
            SOper.mk (some 40) none (SOp.ibin BinOp.sub (Operand.tmp 38) (Operand.tmp 39)),
            SOper.mk (some 41) none (SOp.mv (Operand.const (Value.int IntKind.i64 0)))]
          [1, 2, 9, 10, 11, 19, 20, 21, 28, 29, 30, 40, 41])
        (Stmt.block 4 (Stmt.loop S113_1 [41] [1, 2, 9, 10, 11, 19, 20, 21, 28, 29, 30, 40])))))
def S113_3 : Stmt :=
  Stmt.region
  [SOper.mk (some 79) none (SOp.ibin BinOp.add (Operand.tmp 30) (Operand.const (Value.int IntKind.i64 1))),
    SOper.mk (some 30) none (SOp.mv (Operand.tmp 79))]
  [1, 2, 9, 10, 19, 20, 21, 28, 29, 30]
def S113_4 : Stmt :=
  Stmt.seq
  (Stmt.region [SOper.mk (some 31) none (SOp.ibin BinOp.lss (Operand.tmp 30) (Operand.tmp 29))]
    [1, 2, 9, 10, 19, 20, 21, 28, 29, 30, 31])
  (Stmt.seq (Stmt.cond (Operand.tmp 31) Stmt.skip (Stmt.exit 2))
    (Stmt.join S113_2 S113_3 [] [1, 2, 9, 10, 19, 20, 21, 28, 29, 30]))
def S113_5 : Stmt :=
  Stmt.seq
  (Stmt.region [SOper.mk (some 22) none (SOp.ibin BinOp.lss (Operand.tmp 21) (Operand.tmp 20))]
    [1, 2, 7, 19, 20, 21, 22])
  (Stmt.seq (Stmt.cond (Operand.tmp 22) Stmt.skip (Stmt.exit 0))
    (Stmt.seq
      (Stmt.block 1
        (Stmt.seq
          (Stmt.region
            [SOper.mk (some 23) none (SOp.idx 2 (Operand.tmp 19) (Operand.tmp 21)),
              SOper.mk (some 24) none (SOp.load true 2 (Operand.tmp 23)),
              SOper.mk (some 9) none
                (SOp.alloc true 39 (Value.agg (Array.mk [Value.bool false, Value.int IntKind.i64 0]))),
              SOper.mk none none (SOp.store 2 (Operand.tmp 9) (Operand.tmp 24))]
            [1, 2, 7, 9, 19, 20, 21])
          (Stmt.seq
            (Stmt.region
              [SOper.mk (some 25) none (SOp.mv (Operand.tmp 2)),
                SOper.mk (some 26) none (SOp.ibin BinOp.add (Operand.tmp 25) (Operand.const (Value.int IntKind.i64 1))),
                SOper.mk (some 27) none (SOp.mk 4 1 1 (Value.bool false) (Operand.tmp 26) (Operand.tmp 26)),
                SOper.mk (some 10) none (SOp.mv (Operand.tmp 27))]
              [1, 2, 7, 9, 10, 19, 20, 21])
            (Stmt.seq
              (Stmt.seq
                (Stmt.region
                  [SOper.mk (some 28) none (SOp.mv (Operand.tmp 7)),
                    SOper.mk (some 29) none (SOp.len false (Operand.tmp 28)),
                    SOper.mk (some 30) none (SOp.mv (Operand.const (Value.int IntKind.i64 0)))]
                  [1, 2, 9, 10, 19, 20, 21, 28, 29, 30])
                (Stmt.block 2 (Stmt.loop S113_4 [30] [1, 2, 9, 10, 19, 20, 21, 28, 29])))
              (Stmt.region
                [SOper.mk (some 80) none (SOp.mv (Operand.tmp 10)), SOper.mk (some 7) none (SOp.mv (Operand.tmp 80))]
                [1, 2, 7, 19, 20, 21])))))
      (Stmt.region
        [SOper.mk (some 81) none (SOp.ibin BinOp.add (Operand.tmp 21) (Operand.const (Value.int IntKind.i64 1))),
          SOper.mk (some 21) none (SOp.mv (Operand.tmp 81))]
        [1, 2, 7, 19, 20, 21])))
def S113_0 : Stmt :=
  Stmt.seq (Stmt.region [SOper.mk (some 6) none (SOp.mv (Operand.const (Value.slice none 0 0)))] [0, 1, 2])
  (Stmt.seq
    (Stmt.region
      [SOper.mk (some 14) none (SOp.mv (Operand.tmp 2)),
        SOper.mk (some 15) none (SOp.ibin BinOp.add (Operand.tmp 14) (Operand.const (Value.int IntKind.i64 1))),
        SOper.mk (some 16) none (SOp.mk 4 1 1 (Value.bool false) (Operand.tmp 15) (Operand.tmp 15)),
        SOper.mk (some 7) none (SOp.mv (Operand.tmp 16))]
      [0, 1, 2, 7])
    (Stmt.seq
      (Stmt.region
        [SOper.mk (some 17) none (SOp.mv (Operand.tmp 7)),
          SOper.mk (some 18) none (SOp.idx 1 (Operand.tmp 17) (Operand.const (Value.int IntKind.i64 0))),
          SOper.mk none none (SOp.store 1 (Operand.tmp 18) (Operand.const (Value.bool true)))]
        [0, 1, 2, 7])
      (Stmt.seq
        (Stmt.seq
          (Stmt.region
            [SOper.mk (some 19) none (SOp.mv (Operand.tmp 0)), SOper.mk (some 20) none (SOp.len false (Operand.tmp 19)),
              SOper.mk (some 21) none (SOp.mv (Operand.const (Value.int IntKind.i64 0)))]
            [1, 2, 7, 19, 20, 21])
          (Stmt.block 0 (Stmt.loop S113_5 [7, 21] [1, 2, 19, 20])))
        (Stmt.seq
          (Stmt.region
            [SOper.mk (some 82) none (SOp.mv (Operand.tmp 7)), SOper.mk (some 6) none (SOp.mv (Operand.tmp 82))] [6])
          Stmt.ret))))
def S113 : FnS := ⟨83, [(6, none)], S113_0⟩
theorem tr113 : trFn Try.prog 113 [9] [[0, 1, 2], [0, 1, 2, 7], [0, 1, 2, 7], [1, 2, 7, 19, 20, 21], [7, 21], [1, 2, 19, 20], [1, 2, 7, 19, 20, 21, 22], [1, 2, 7, 9, 19, 20, 21], [1, 2, 7, 9, 10, 19, 20, 21], [1, 2, 9, 10, 19, 20, 21, 28, 29, 30], [30], [1, 2, 9, 10, 19, 20, 21, 28, 29], [1, 2, 9, 10, 19, 20, 21, 28, 29, 30, 31], [], [1, 2, 9, 10, 19, 20, 21, 28, 29, 30], [1, 2, 9, 10, 11, 12, 19, 20, 21, 28, 29, 30], [1, 2, 9, 10, 11, 19, 20, 21, 28, 29, 30, 36], [1, 2, 9, 10, 11, 19, 20, 21, 28, 29, 30, 40, 41], [41], [1, 2, 9, 10, 11, 19, 20, 21, 28, 29, 30, 40], [1, 2, 9, 10, 11, 19, 20, 21, 28, 29, 30, 40, 41, 42], [1, 2, 9, 10, 11, 13, 19, 20, 21, 28, 29, 30, 40, 41], [1, 2, 9, 10, 11, 19, 20, 21, 28, 29, 30, 40, 41], [1, 2, 9, 10, 11, 19, 20, 21, 28, 29, 30, 40, 41], [1, 2, 9, 10, 19, 20, 21, 28, 29, 30], [1, 2, 7, 19, 20, 21], [1, 2, 7, 19, 20, 21], [6]] = some S113 := by kernel_rfl
end Go.Proofs.Ytniobbepliknmaa.V
