/- The text of parlance/shrink.Lower as a statement (slots: 0 w, 1 fails, 2 w, 3 fails, 6 _, 7 x, 8 i, 9 x, 10 v); no condition. -/
import Derived.Test.YtniobbepliknmaaVh
import Derived.Test.YtniobbepliknmaaProg
namespace Go.Proofs.Ytniobbepliknmaa.V
open Go
def S34_1 : Stmt :=
  Stmt.seq
  (Stmt.region [SOper.mk (some 17) none (SOp.ibin BinOp.lss (Operand.tmp 16) (Operand.tmp 15))] [0, 1, 14, 15, 16, 17])
  (Stmt.seq (Stmt.cond (Operand.tmp 17) Stmt.skip (Stmt.exit 0))
    (Stmt.seq
      (Stmt.block 1
        (Stmt.seq
          (Stmt.region
            [SOper.mk (some 18) none (SOp.idx 1 (Operand.tmp 14) (Operand.tmp 16)),
              SOper.mk (some 19) none (SOp.load false 1 (Operand.tmp 18)),
              SOper.mk (some 7) none (SOp.mv (Operand.tmp 19))]
            [0, 1, 7, 14, 15, 16])
          (Stmt.seq
            (Stmt.region
              [SOper.mk (some 20) none (SOp.mv (Operand.tmp 7)),
                SOper.mk (some 21) none (SOp.ibin BinOp.lss (Operand.tmp 20) (Operand.const (Value.int IntKind.i64 0))),
                SOper.mk (some 22) none (SOp.mv (Operand.tmp 21)),
                SOper.mk (some 23) (some (22, false)) (SOp.mv (Operand.tmp 7)),
                SOper.mk (some 24) (some (22, false))
                  (SOp.ibin BinOp.geq (Operand.tmp 23) (Operand.const (Value.int IntKind.i64 8))),
                SOper.mk (some 25) none (SOp.pick (Operand.tmp 22) (Operand.const (Value.bool true)) (Operand.tmp 24))]
              [0, 1, 14, 15, 16, 25])
            (Stmt.cond (Operand.tmp 25)
              (Stmt.seq
                (Stmt.region
                  [SOper.mk (some 4) none (SOp.mv (Operand.const (Value.slice none 0 0))),
                    SOper.mk (some 5) none (SOp.mv (Operand.const (Value.int IntKind.i64 1)))]
                  [4, 5])
                Stmt.ret)
              Stmt.skip))))
      (Stmt.region
        [SOper.mk (some 26) none (SOp.ibin BinOp.add (Operand.tmp 16) (Operand.const (Value.int IntKind.i64 1))),
          SOper.mk (some 16) none (SOp.mv (Operand.tmp 26))]
        [0, 1, 14, 15, 16])))
def S34_2 : Stmt :=
  Stmt.seq
  (Stmt.region [SOper.mk (some 49) none (SOp.ibin BinOp.lss (Operand.tmp 48) (Operand.tmp 47))] [0, 1, 8, 47, 48, 49])
  (Stmt.seq (Stmt.cond (Operand.tmp 49) Stmt.skip (Stmt.exit 4))
    (Stmt.seq
      (Stmt.block 5
        (Stmt.seq
          (Stmt.region
            [SOper.mk (some 50) none (SOp.mv (Operand.tmp 48)), SOper.mk (some 9) none (SOp.mv (Operand.tmp 50))]
            [0, 1, 8, 9, 47, 48])
          (Stmt.seq
            (Stmt.region
              [SOper.mk (some 51) none (SOp.mv (Operand.tmp 0)), SOper.mk (some 52) none (SOp.mv (Operand.tmp 0)),
                SOper.mk (some 53) none (SOp.len false (Operand.tmp 52)),
                SOper.mk (some 54) none (SOp.call (Operand.func 106) [Operand.tmp 51, Operand.tmp 53]),
                SOper.mk (some 10) none (SOp.mv (Operand.tmp 54))]
              [0, 1, 8, 9, 10, 47, 48])
            (Stmt.seq
              (Stmt.region
                [SOper.mk (some 55) none (SOp.mv (Operand.tmp 10)), SOper.mk (some 56) none (SOp.mv (Operand.tmp 8)),
                  SOper.mk (some 57) none (SOp.mv (Operand.tmp 9)),
                  SOper.mk (some 58) none (SOp.idx 1 (Operand.tmp 55) (Operand.tmp 56)),
                  SOper.mk none none (SOp.store 1 (Operand.tmp 58) (Operand.tmp 57))]
                [0, 1, 8, 10, 47, 48])
              (Stmt.seq
                (Stmt.region
                  [SOper.mk (some 59) none (SOp.mv (Operand.tmp 1)), SOper.mk (some 60) none (SOp.mv (Operand.tmp 10)),
                    SOper.mk (some 61) none (SOp.mv (Operand.tmp 10)),
                    SOper.mk (some 62) none (SOp.len false (Operand.tmp 61)),
                    SOper.mk (some 63) none (SOp.call (Operand.func 106) [Operand.tmp 60, Operand.tmp 62]),
                    SOper.mk (some 64) none (SOp.call (Operand.tmp 59) [Operand.tmp 63])]
                  [0, 1, 8, 10, 47, 48, 64])
                (Stmt.cond (Operand.tmp 64)
                  (Stmt.seq
                    (Stmt.region
                      [SOper.mk (some 65) none (SOp.mv (Operand.tmp 10)),
                        SOper.mk (some 0) none (SOp.mv (Operand.tmp 65)),
                        SOper.mk (some 8) none (SOp.mv (Operand.const (Value.int IntKind.i64 (-1))))]
                      [0, 1, 8])
                    (Stmt.exit 4))
                  Stmt.skip))))))
      (Stmt.region
        [SOper.mk (some 66) none (SOp.ibin BinOp.add (Operand.tmp 48) (Operand.const (Value.int IntKind.i64 1))),
          SOper.mk (some 48) none (SOp.mv (Operand.tmp 66))]
        [0, 1, 8, 47, 48])))
def S34_3 : Stmt :=
  Stmt.block 3
  (Stmt.seq
    (Stmt.region
      [SOper.mk (some 44) none (SOp.mv (Operand.tmp 0)), SOper.mk (some 45) none (SOp.mv (Operand.tmp 8)),
        SOper.mk (some 46) none (SOp.idx 1 (Operand.tmp 44) (Operand.tmp 45)),
        SOper.mk (some 47) none (SOp.load false 1 (Operand.tmp 46)),
        SOper.mk (some 48) none (SOp.mv (Operand.const (Value.int IntKind.i64 0)))]
      [0, 1, 8, 47, 48])
    (Stmt.block 4 (Stmt.loop S34_2 [0, 8, 48] [1, 47])))
def S34_4 : Stmt :=
  Stmt.region
  [SOper.mk (some 42) none (SOp.mv (Operand.tmp 8)),
    SOper.mk (some 43) none (SOp.ibin BinOp.add (Operand.tmp 42) (Operand.const (Value.int IntKind.i64 1))),
    SOper.mk (some 8) none (SOp.mv (Operand.tmp 43))]
  [0, 1, 8]
def S34_5 : Stmt :=
  Stmt.seq
  (Stmt.seq
    (Stmt.region
      [SOper.mk (some 38) none (SOp.mv (Operand.tmp 8)), SOper.mk (some 39) none (SOp.mv (Operand.tmp 0)),
        SOper.mk (some 40) none (SOp.len false (Operand.tmp 39)),
        SOper.mk (some 41) none (SOp.ibin BinOp.lss (Operand.tmp 38) (Operand.tmp 40))]
      [0, 1, 8, 41])
    (Stmt.cond (Operand.tmp 41) Stmt.skip (Stmt.exit 2)))
  (Stmt.join S34_3 S34_4 [0, 8] [1])
def S34_0 : Stmt :=
  Stmt.seq
  (Stmt.region
    [SOper.mk (some 4) none (SOp.mv (Operand.const (Value.slice none 0 0))),
      SOper.mk (some 5) none (SOp.mv (Operand.const (Value.int IntKind.i64 0)))]
    [0, 1])
  (Stmt.seq
    (Stmt.seq
      (Stmt.region
        [SOper.mk (some 11) none (SOp.mv (Operand.tmp 0)), SOper.mk (some 12) none (SOp.len false (Operand.tmp 11)),
          SOper.mk (some 13) none (SOp.ibin BinOp.gtr (Operand.tmp 12) (Operand.const (Value.int IntKind.i64 60)))]
        [0, 1, 13])
      (Stmt.cond (Operand.tmp 13)
        (Stmt.seq
          (Stmt.region
            [SOper.mk (some 4) none (SOp.mv (Operand.const (Value.slice none 0 0))),
              SOper.mk (some 5) none (SOp.mv (Operand.const (Value.int IntKind.i64 2)))]
            [4, 5])
          Stmt.ret)
        Stmt.skip))
    (Stmt.seq
      (Stmt.seq
        (Stmt.region
          [SOper.mk (some 14) none (SOp.mv (Operand.tmp 0)), SOper.mk (some 15) none (SOp.len false (Operand.tmp 14)),
            SOper.mk (some 16) none (SOp.mv (Operand.const (Value.int IntKind.i64 0)))]
          [0, 1, 14, 15, 16])
        (Stmt.block 0 (Stmt.loop S34_1 [16] [0, 1, 14, 15])))
      (Stmt.seq
        (Stmt.region
          [SOper.mk (some 27) none (SOp.mv (Operand.tmp 0)), SOper.mk (some 28) none (SOp.mv (Operand.tmp 0)),
            SOper.mk (some 29) none (SOp.len false (Operand.tmp 28)),
            SOper.mk (some 30) none (SOp.call (Operand.func 106) [Operand.tmp 27, Operand.tmp 29]),
            SOper.mk (some 0) none (SOp.mv (Operand.tmp 30))]
          [0, 1])
        (Stmt.seq
          (Stmt.seq
            (Stmt.region
              [SOper.mk (some 31) none (SOp.mv (Operand.tmp 1)), SOper.mk (some 32) none (SOp.mv (Operand.tmp 0)),
                SOper.mk (some 33) none (SOp.mv (Operand.tmp 0)),
                SOper.mk (some 34) none (SOp.len false (Operand.tmp 33)),
                SOper.mk (some 35) none (SOp.call (Operand.func 106) [Operand.tmp 32, Operand.tmp 34]),
                SOper.mk (some 36) none (SOp.call (Operand.tmp 31) [Operand.tmp 35]),
                SOper.mk (some 37) none (SOp.un UnOp.not (Operand.tmp 36))]
              [0, 1, 37])
            (Stmt.cond (Operand.tmp 37)
              (Stmt.seq
                (Stmt.region
                  [SOper.mk (some 4) none (SOp.mv (Operand.const (Value.slice none 0 0))),
                    SOper.mk (some 5) none (SOp.mv (Operand.const (Value.int IntKind.i64 7)))]
                  [4, 5])
                Stmt.ret)
              Stmt.skip))
          (Stmt.seq
            (Stmt.seq
              (Stmt.region [SOper.mk (some 8) none (SOp.mv (Operand.const (Value.int IntKind.i64 0)))] [0, 1, 8])
              (Stmt.block 2 (Stmt.loop S34_5 [0, 8] [1])))
            (Stmt.seq
              (Stmt.region
                [SOper.mk (some 67) none (SOp.mv (Operand.tmp 0)), SOper.mk (some 4) none (SOp.mv (Operand.tmp 67)),
                  SOper.mk (some 5) none (SOp.mv (Operand.const (Value.int IntKind.i64 0)))]
                [4, 5])
              Stmt.ret))))))
def S34 : FnS := ⟨68, [(4, none), (5, none)], S34_0⟩
theorem tr34 : trFn Try.prog 34 [] [[0, 1], [0, 1, 13], [4, 5], [0, 1, 14, 15, 16], [16], [0, 1, 14, 15], [0, 1, 14, 15, 16, 17], [0, 1, 7, 14, 15, 16], [0, 1, 14, 15, 16, 25], [4, 5], [0, 1, 14, 15, 16], [0, 1], [0, 1, 37], [4, 5], [0, 1, 8], [0, 8], [1], [0, 1, 8, 41], [0, 8], [1], [0, 1, 8, 47, 48], [0, 8, 48], [1, 47], [0, 1, 8, 47, 48, 49], [0, 1, 8, 9, 47, 48], [0, 1, 8, 9, 10, 47, 48], [0, 1, 8, 10, 47, 48], [0, 1, 8, 10, 47, 48, 64], [0, 1, 8], [0, 1, 8, 47, 48], [0, 1, 8], [4, 5]] = some S34 := by kernel_rfl
end Go.Proofs.Ytniobbepliknmaa.V
