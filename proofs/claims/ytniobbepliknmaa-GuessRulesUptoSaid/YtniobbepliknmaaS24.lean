/- The text of parlance/guess.Rules as a statement (slots: 0 terms, 1 nons, 2 terms, 3 nons, 6 syms, 7 i, 8 i, 9 out, 10 a, 11 _, 12 x, 13 _, 14 x, 15 _, 16 y); no condition. -/
import Derived.Test.YtniobbepliknmaaVh
import Derived.Test.YtniobbepliknmaaProg
namespace Go.Proofs.Ytniobbepliknmaa.V
open Go
def S24_1 : Stmt :=
  Stmt.seq
  (Stmt.region [SOper.mk (some 33) none (SOp.ibin BinOp.lss (Operand.tmp 32) (Operand.tmp 31))] [1, 6, 31, 32, 33])
  (Stmt.seq (Stmt.cond (Operand.tmp 33) Stmt.skip (Stmt.exit 0))
    (Stmt.seq
      (Stmt.block 1
        (Stmt.seq
          (Stmt.region
            [SOper.mk (some 34) none (SOp.mv (Operand.tmp 32)), SOper.mk (some 7) none (SOp.mv (Operand.tmp 34))]
            [1, 6, 7, 31, 32])
          (Stmt.region
            [SOper.mk (some 35) none (SOp.mv (Operand.tmp 6)), SOper.mk (some 36) none (SOp.mv (Operand.tmp 7)),
              SOper.mk (some 37) none
                (SOp.build 39 [Value.bool false, Value.int IntKind.i64 0]
                  [(0, 1, Operand.const (Value.bool true)), (1, 1, Operand.tmp 36)]),
              SOper.mk (some 38) none
                (SOp.buildS 39 1 [Value.bool false, Value.int IntKind.i64 0] [(0, 2, Operand.tmp 37)]),
              SOper.mk (some 39) none
                (SOp.append 35 39 2 16 (Value.agg (Array.mk [Value.bool false, Value.int IntKind.i64 0]))
                  (Operand.tmp 35) (Operand.tmp 38)),
              SOper.mk (some 6) none (SOp.mv (Operand.tmp 39))]
            [1, 6, 31, 32])))
      (Stmt.region
        [SOper.mk (some 40) none (SOp.ibin BinOp.add (Operand.tmp 32) (Operand.const (Value.int IntKind.i64 1))),
          SOper.mk (some 32) none (SOp.mv (Operand.tmp 40))]
        [1, 6, 31, 32])))
def S24_2 : Stmt :=
  Stmt.seq
  (Stmt.region [SOper.mk (some 43) none (SOp.ibin BinOp.lss (Operand.tmp 42) (Operand.tmp 41))] [1, 6, 41, 42, 43])
  (Stmt.seq (Stmt.cond (Operand.tmp 43) Stmt.skip (Stmt.exit 2))
    (Stmt.seq
      (Stmt.block 3
        (Stmt.seq
          (Stmt.region
            [SOper.mk (some 44) none (SOp.mv (Operand.tmp 42)), SOper.mk (some 8) none (SOp.mv (Operand.tmp 44))]
            [1, 6, 8, 41, 42])
          (Stmt.region
            [SOper.mk (some 45) none (SOp.mv (Operand.tmp 6)), SOper.mk (some 46) none (SOp.mv (Operand.tmp 8)),
              SOper.mk (some 47) none
                (SOp.build 39 [Value.bool false, Value.int IntKind.i64 0] [(1, 1, Operand.tmp 46)]),
              SOper.mk (some 48) none
                (SOp.buildS 39 1 [Value.bool false, Value.int IntKind.i64 0] [(0, 2, Operand.tmp 47)]),
              SOper.mk (some 49) none
                (SOp.append 35 39 2 16 (Value.agg (Array.mk [Value.bool false, Value.int IntKind.i64 0]))
                  (Operand.tmp 45) (Operand.tmp 48)),
              SOper.mk (some 6) none (SOp.mv (Operand.tmp 49))]
            [1, 6, 41, 42])))
      (Stmt.region
        [SOper.mk (some 50) none (SOp.ibin BinOp.add (Operand.tmp 42) (Operand.const (Value.int IntKind.i64 1))),
          SOper.mk (some 42) none (SOp.mv (Operand.tmp 50))]
        [1, 6, 41, 42])))
def S24_3 : Stmt :=
  Stmt.seq
  (Stmt.region [SOper.mk (some 63) none (SOp.ibin BinOp.lss (Operand.tmp 62) (Operand.tmp 61))]
    [6, 9, 10, 51, 52, 60, 61, 62, 63])
  (Stmt.seq (Stmt.cond (Operand.tmp 63) Stmt.skip (Stmt.exit 6))
    (Stmt.seq
      (Stmt.block 7
        (Stmt.seq
          (Stmt.region
            [SOper.mk (some 64) none (SOp.idx 2 (Operand.tmp 60) (Operand.tmp 62)),
              SOper.mk (some 65) none (SOp.load true 2 (Operand.tmp 64)),
              SOper.mk (some 12) none
                (SOp.alloc true 39 (Value.agg (Array.mk [Value.bool false, Value.int IntKind.i64 0]))),
              SOper.mk none none (SOp.store 2 (Operand.tmp 12) (Operand.tmp 65))]
            [6, 9, 10, 12, 51, 52, 60, 61, 62])
          (Stmt.region
            [SOper.mk (some 66) none (SOp.mv (Operand.tmp 9)), SOper.mk (some 67) none (SOp.mv (Operand.tmp 10)),
              SOper.mk (some 68) none (SOp.load true 2 (Operand.tmp 12)),
              SOper.mk (some 69) none
                (SOp.buildS 39 1 [Value.bool false, Value.int IntKind.i64 0] [(0, 2, Operand.tmp 68)]),
              SOper.mk (some 70) none
                (SOp.build 37 [Value.int IntKind.i64 0, Value.slice none 0 0]
                  [(0, 1, Operand.tmp 67), (1, 1, Operand.tmp 69)]),
              SOper.mk (some 71) none
                (SOp.buildS 37 1 [Value.int IntKind.i64 0, Value.slice none 0 0] [(0, 2, Operand.tmp 70)]),
              SOper.mk (some 72) none
                (SOp.append 32 37 2 32 (Value.agg (Array.mk [Value.int IntKind.i64 0, Value.slice none 0 0]))
                  (Operand.tmp 66) (Operand.tmp 71)),
              SOper.mk (some 9) none (SOp.mv (Operand.tmp 72))]
            [6, 9, 10, 51, 52, 60, 61, 62])))
      (Stmt.region
        [SOper.mk (some 73) none (SOp.ibin BinOp.add (Operand.tmp 62) (Operand.const (Value.int IntKind.i64 1))),
          SOper.mk (some 62) none (SOp.mv (Operand.tmp 73))]
        [6, 9, 10, 51, 52, 60, 61, 62])))
def S24_4 : Stmt :=
  Stmt.seq
  (Stmt.region [SOper.mk (some 83) none (SOp.ibin BinOp.lss (Operand.tmp 82) (Operand.tmp 81))]
    [6, 9, 10, 14, 51, 52, 74, 75, 76, 80, 81, 82, 83])
  (Stmt.seq (Stmt.cond (Operand.tmp 83) Stmt.skip (Stmt.exit 10))
    (Stmt.seq
      (Stmt.block 11
        (Stmt.seq
          (Stmt.region
            [SOper.mk (some 84) none (SOp.idx 2 (Operand.tmp 80) (Operand.tmp 82)),
              SOper.mk (some 85) none (SOp.load true 2 (Operand.tmp 84)),
              SOper.mk (some 16) none
                (SOp.alloc true 39 (Value.agg (Array.mk [Value.bool false, Value.int IntKind.i64 0]))),
              SOper.mk none none (SOp.store 2 (Operand.tmp 16) (Operand.tmp 85))]
            [6, 9, 10, 14, 16, 51, 52, 74, 75, 76, 80, 81, 82])
          (Stmt.region
            [SOper.mk (some 86) none (SOp.mv (Operand.tmp 9)), SOper.mk (some 87) none (SOp.mv (Operand.tmp 10)),
              SOper.mk (some 88) none (SOp.load true 2 (Operand.tmp 14)),
              SOper.mk (some 89) none (SOp.load true 2 (Operand.tmp 16)),
              SOper.mk (some 90) none
                (SOp.buildS 39 2 [Value.bool false, Value.int IntKind.i64 0, Value.bool false, Value.int IntKind.i64 0]
                  [(0, 2, Operand.tmp 88), (2, 2, Operand.tmp 89)]),
              SOper.mk (some 91) none
                (SOp.build 37 [Value.int IntKind.i64 0, Value.slice none 0 0]
                  [(0, 1, Operand.tmp 87), (1, 1, Operand.tmp 90)]),
              SOper.mk (some 92) none
                (SOp.buildS 37 1 [Value.int IntKind.i64 0, Value.slice none 0 0] [(0, 2, Operand.tmp 91)]),
              SOper.mk (some 93) none
                (SOp.append 32 37 2 32 (Value.agg (Array.mk [Value.int IntKind.i64 0, Value.slice none 0 0]))
                  (Operand.tmp 86) (Operand.tmp 92)),
              SOper.mk (some 9) none (SOp.mv (Operand.tmp 93))]
            [6, 9, 10, 14, 51, 52, 74, 75, 76, 80, 81, 82])))
      (Stmt.region
        [SOper.mk (some 94) none (SOp.ibin BinOp.add (Operand.tmp 82) (Operand.const (Value.int IntKind.i64 1))),
          SOper.mk (some 82) none (SOp.mv (Operand.tmp 94))]
        [6, 9, 10, 14, 51, 52, 74, 75, 76, 80, 81, 82])))
def S24_5 : Stmt :=
  Stmt.seq
  (Stmt.region [SOper.mk (some 77) none (SOp.ibin BinOp.lss (Operand.tmp 76) (Operand.tmp 75))]
    [6, 9, 10, 51, 52, 74, 75, 76, 77])
  (Stmt.seq (Stmt.cond (Operand.tmp 77) Stmt.skip (Stmt.exit 8))
    (Stmt.seq
      (Stmt.block 9
        (Stmt.seq
          (Stmt.region
            [SOper.mk (some 78) none (SOp.idx 2 (Operand.tmp 74) (Operand.tmp 76)),
              SOper.mk (some 79) none (SOp.load true 2 (Operand.tmp 78)),
              SOper.mk (some 14) none
                (SOp.alloc true 39 (Value.agg (Array.mk [Value.bool false, Value.int IntKind.i64 0]))),
              SOper.mk none none (SOp.store 2 (Operand.tmp 14) (Operand.tmp 79))]
            [6, 9, 10, 14, 51, 52, 74, 75, 76])
          (Stmt.seq
            (Stmt.region
              [SOper.mk (some 80) none (SOp.mv (Operand.tmp 6)),
                SOper.mk (some 81) none (SOp.len false (Operand.tmp 80)),
                SOper.mk (some 82) none (SOp.mv (Operand.const (Value.int IntKind.i64 0)))]
              [6, 9, 10, 14, 51, 52, 74, 75, 76, 80, 81, 82])
            (Stmt.block 10 (Stmt.loop S24_4 [9, 82] [6, 10, 14, 51, 52, 74, 75, 76, 80, 81])))))
      (Stmt.region
        [SOper.mk (some 95) none (SOp.ibin BinOp.add (Operand.tmp 76) (Operand.const (Value.int IntKind.i64 1))),
          SOper.mk (some 76) none (SOp.mv (Operand.tmp 95))]
        [6, 9, 10, 51, 52, 74, 75, 76])))
def S24_6 : Stmt :=
  Stmt.seq
  (Stmt.region [SOper.mk (some 53) none (SOp.ibin BinOp.lss (Operand.tmp 52) (Operand.tmp 51))] [6, 9, 51, 52, 53])
  (Stmt.seq (Stmt.cond (Operand.tmp 53) Stmt.skip (Stmt.exit 4))
    (Stmt.seq
      (Stmt.block 5
        (Stmt.seq
          (Stmt.region
            [SOper.mk (some 54) none (SOp.mv (Operand.tmp 52)), SOper.mk (some 10) none (SOp.mv (Operand.tmp 54))]
            [6, 9, 10, 51, 52])
          (Stmt.seq
            (Stmt.region
              [SOper.mk (some 55) none (SOp.mv (Operand.tmp 9)), SOper.mk (some 56) none (SOp.mv (Operand.tmp 10)),
                SOper.mk (some 57) none
                  (SOp.build 37 [Value.int IntKind.i64 0, Value.slice none 0 0] [(0, 1, Operand.tmp 56)]),
                SOper.mk (some 58) none
                  (SOp.buildS 37 1 [Value.int IntKind.i64 0, Value.slice none 0 0] [(0, 2, Operand.tmp 57)]),
                SOper.mk (some 59) none
                  (SOp.append 32 37 2 32 (Value.agg (Array.mk [Value.int IntKind.i64 0, Value.slice none 0 0]))
                    (Operand.tmp 55) (Operand.tmp 58)),
                SOper.mk (some 9) none (SOp.mv (Operand.tmp 59))]
              [6, 9, 10, 51, 52])
            (Stmt.seq
              (Stmt.seq
                (Stmt.region
                  [SOper.mk (some 60) none (SOp.mv (Operand.tmp 6)),
                    SOper.mk (some 61) none (SOp.len false (Operand.tmp 60)),
                    SOper.mk (some 62) none (SOp.mv (Operand.const (Value.int IntKind.i64 0)))]
                  [6, 9, 10, 51, 52, 60, 61, 62])
                (Stmt.block 6 (Stmt.loop S24_3 [9, 62] [6, 10, 51, 52, 60, 61])))
              (Stmt.seq
                (Stmt.region
                  [SOper.mk (some 74) none (SOp.mv (Operand.tmp 6)),
                    SOper.mk (some 75) none (SOp.len false (Operand.tmp 74)),
                    SOper.mk (some 76) none (SOp.mv (Operand.const (Value.int IntKind.i64 0)))]
                  [6, 9, 10, 51, 52, 74, 75, 76])
                (Stmt.block 8 (Stmt.loop S24_5 [9, 76] [6, 10, 51, 52, 74, 75])))))))
      (Stmt.region
        [SOper.mk (some 96) none (SOp.ibin BinOp.add (Operand.tmp 52) (Operand.const (Value.int IntKind.i64 1))),
          SOper.mk (some 52) none (SOp.mv (Operand.tmp 96))]
        [6, 9, 51, 52])))
def S24_0 : Stmt :=
  Stmt.seq
  (Stmt.region
    [SOper.mk (some 4) none (SOp.mv (Operand.const (Value.slice none 0 0))),
      SOper.mk (some 5) none (SOp.mv (Operand.const (Value.int IntKind.i64 0)))]
    [0, 1])
  (Stmt.seq
    (Stmt.seq
      (Stmt.region
        [SOper.mk (some 17) none (SOp.mv (Operand.tmp 0)),
          SOper.mk (some 18) none (SOp.ibin BinOp.lss (Operand.tmp 17) (Operand.const (Value.int IntKind.i64 1))),
          SOper.mk (some 19) none (SOp.mv (Operand.tmp 18)),
          SOper.mk (some 20) (some (19, false)) (SOp.mv (Operand.tmp 0)),
          SOper.mk (some 21) (some (19, false))
            (SOp.ibin BinOp.gtr (Operand.tmp 20) (Operand.const (Value.int IntKind.i64 2))),
          SOper.mk (some 22) none (SOp.pick (Operand.tmp 19) (Operand.const (Value.bool true)) (Operand.tmp 21)),
          SOper.mk (some 23) none (SOp.mv (Operand.tmp 22)),
          SOper.mk (some 24) (some (23, false)) (SOp.mv (Operand.tmp 1)),
          SOper.mk (some 25) (some (23, false))
            (SOp.ibin BinOp.lss (Operand.tmp 24) (Operand.const (Value.int IntKind.i64 1))),
          SOper.mk (some 26) none (SOp.pick (Operand.tmp 23) (Operand.const (Value.bool true)) (Operand.tmp 25)),
          SOper.mk (some 27) none (SOp.mv (Operand.tmp 26)),
          SOper.mk (some 28) (some (27, false)) (SOp.mv (Operand.tmp 1)),
          SOper.mk (some 29) (some (27, false))
            (SOp.ibin BinOp.gtr (Operand.tmp 28) (Operand.const (Value.int IntKind.i64 2))),
          SOper.mk (some 30) none (SOp.pick (Operand.tmp 27) (Operand.const (Value.bool true)) (Operand.tmp 29))]
        [0, 1, 30])
      (Stmt.cond (Operand.tmp 30)
        (Stmt.seq
          (Stmt.region
            [SOper.mk (some 4) none (SOp.mv (Operand.const (Value.slice none 0 0))),
              SOper.mk (some 5) none (SOp.mv (Operand.const (Value.int IntKind.i64 1)))]
            [4, 5])
          Stmt.ret)
        Stmt.skip))
    (Stmt.seq (Stmt.region [SOper.mk (some 6) none (SOp.mv (Operand.const (Value.slice none 0 0)))] [0, 1, 6])
      (Stmt.seq
        (Stmt.seq
          (Stmt.region
            [SOper.mk (some 31) none (SOp.mv (Operand.tmp 0)),
              SOper.mk (some 32) none (SOp.mv (Operand.const (Value.int IntKind.i64 0)))]
            [1, 6, 31, 32])
          (Stmt.block 0 (Stmt.loop S24_1 [6, 32] [1, 31])))
        (Stmt.seq
          (Stmt.seq
            (Stmt.region
              [SOper.mk (some 41) none (SOp.mv (Operand.tmp 1)),
                SOper.mk (some 42) none (SOp.mv (Operand.const (Value.int IntKind.i64 0)))]
              [1, 6, 41, 42])
            (Stmt.block 2 (Stmt.loop S24_2 [6, 42] [1, 41])))
          (Stmt.seq (Stmt.region [SOper.mk (some 9) none (SOp.mv (Operand.const (Value.slice none 0 0)))] [1, 6, 9])
            (Stmt.seq
              (Stmt.seq
                (Stmt.region
                  [SOper.mk (some 51) none (SOp.mv (Operand.tmp 1)),
                    SOper.mk (some 52) none (SOp.mv (Operand.const (Value.int IntKind.i64 0)))]
                  [6, 9, 51, 52])
                (Stmt.block 4 (Stmt.loop S24_6 [9, 52] [6, 51])))
              (Stmt.seq
                (Stmt.region
                  [SOper.mk (some 97) none (SOp.mv (Operand.tmp 9)), SOper.mk (some 4) none (SOp.mv (Operand.tmp 97)),
                    SOper.mk (some 5) none (SOp.mv (Operand.const (Value.int IntKind.i64 0)))]
                  [4, 5])
                Stmt.ret)))))))
def S24 : FnS := ⟨98, [(4, none), (5, none)], S24_0⟩
theorem tr24 : trFn Try.prog 24 [12, 14, 16] [[0, 1], [0, 1, 30], [4, 5], [0, 1, 6], [1, 6, 31, 32], [6, 32], [1, 31], [1, 6, 31, 32, 33], [1, 6, 7, 31, 32], [1, 6, 31, 32], [1, 6, 31, 32], [1, 6, 41, 42], [6, 42], [1, 41], [1, 6, 41, 42, 43], [1, 6, 8, 41, 42], [1, 6, 41, 42], [1, 6, 41, 42], [1, 6, 9], [6, 9, 51, 52], [9, 52], [6, 51], [6, 9, 51, 52, 53], [6, 9, 10, 51, 52], [6, 9, 10, 51, 52], [6, 9, 10, 51, 52, 60, 61, 62], [9, 62], [6, 10, 51, 52, 60, 61], [6, 9, 10, 51, 52, 60, 61, 62, 63], [6, 9, 10, 12, 51, 52, 60, 61, 62], [6, 9, 10, 51, 52, 60, 61, 62], [6, 9, 10, 51, 52, 60, 61, 62], [6, 9, 10, 51, 52, 74, 75, 76], [9, 76], [6, 10, 51, 52, 74, 75], [6, 9, 10, 51, 52, 74, 75, 76, 77], [6, 9, 10, 14, 51, 52, 74, 75, 76], [6, 9, 10, 14, 51, 52, 74, 75, 76, 80, 81, 82], [9, 82], [6, 10, 14, 51, 52, 74, 75, 76, 80, 81], [6, 9, 10, 14, 51, 52, 74, 75, 76, 80, 81, 82, 83], [6, 9, 10, 14, 16, 51, 52, 74, 75, 76, 80, 81, 82], [6, 9, 10, 14, 51, 52, 74, 75, 76, 80, 81, 82], [6, 9, 10, 14, 51, 52, 74, 75, 76, 80, 81, 82], [6, 9, 10, 51, 52, 74, 75, 76], [6, 9, 51, 52], [4, 5]] = some S24 := by kernel_rfl
end Go.Proofs.Ytniobbepliknmaa.V
