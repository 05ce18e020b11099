/- The text of parlance/lens.Set as a statement (slots: 0 g, 1 n, 2 g, 3 n, 6 e, 7 has, 8 a, 9 again, 10 _, 11 r, 12 k, 13 ok); no condition. -/
import Derived.Test.YtniobbepliknmaaVh
import Derived.Test.YtniobbepliknmaaProg
namespace Go.Proofs.Ytniobbepliknmaa.V
open Go
def S39_1 : Stmt :=
  Stmt.seq
  (Stmt.region [SOper.mk (some 31) none (SOp.ibin BinOp.lss (Operand.tmp 30) (Operand.tmp 29))] [1, 2, 7, 29, 30, 31])
  (Stmt.seq (Stmt.cond (Operand.tmp 31) Stmt.skip (Stmt.exit 0))
    (Stmt.seq
      (Stmt.block 1
        (Stmt.seq
          (Stmt.region
            [SOper.mk (some 32) none (SOp.mv (Operand.tmp 30)), SOper.mk (some 8) none (SOp.mv (Operand.tmp 32))]
            [1, 2, 7, 8, 29, 30])
          (Stmt.region
            [SOper.mk (some 33) none (SOp.mv (Operand.tmp 7)), SOper.mk (some 34) none (SOp.mv (Operand.tmp 8)),
              SOper.mk (some 35) none (SOp.mv (Operand.tmp 1)),
              SOper.mk (some 36) none (SOp.ibin BinOp.add (Operand.tmp 35) (Operand.const (Value.int IntKind.i64 1))),
              SOper.mk (some 37) none (SOp.mk 4 1 1 (Value.bool false) (Operand.tmp 36) (Operand.tmp 36)),
              SOper.mk (some 38) none (SOp.idx 1 (Operand.tmp 33) (Operand.tmp 34)),
              SOper.mk none none (SOp.store 1 (Operand.tmp 38) (Operand.tmp 37))]
            [1, 2, 7, 29, 30])))
      (Stmt.region
        [SOper.mk (some 39) none (SOp.ibin BinOp.add (Operand.tmp 30) (Operand.const (Value.int IntKind.i64 1))),
          SOper.mk (some 30) none (SOp.mv (Operand.tmp 39))]
        [1, 2, 7, 29, 30])))
def S39_2 : Stmt :=
  Stmt.block 7
  (Stmt.seq
    (Stmt.region
      [SOper.mk (some 56) none (SOp.mv (Operand.tmp 54)),
        SOper.mk (some 57) none (SOp.idx 1 (Operand.tmp 52) (Operand.tmp 54)),
        SOper.mk (some 58) none (SOp.load false 1 (Operand.tmp 57)), SOper.mk (some 12) none (SOp.mv (Operand.tmp 56)),
        SOper.mk (some 13) none (SOp.mv (Operand.tmp 58))]
      [1, 2, 7, 9, 11, 12, 13, 42, 43, 44, 52, 53, 54])
    (Stmt.seq
      (Stmt.region
        [SOper.mk (some 59) none (SOp.mv (Operand.tmp 13)), SOper.mk (some 60) none (SOp.mv (Operand.tmp 59)),
          SOper.mk (some 61) (some (60, true)) (SOp.mv (Operand.tmp 7)),
          SOper.mk (some 62) (some (60, true)) (SOp.fld 0 (Operand.tmp 11)),
          SOper.mk (some 63) (some (60, true)) (SOp.load false 1 (Operand.tmp 62)),
          SOper.mk (some 64) (some (60, true)) (SOp.idx 1 (Operand.tmp 61) (Operand.tmp 63)),
          SOper.mk (some 65) (some (60, true)) (SOp.load false 1 (Operand.tmp 64)),
          SOper.mk (some 66) (some (60, true)) (SOp.mv (Operand.tmp 12)),
          SOper.mk (some 67) (some (60, true)) (SOp.idx 1 (Operand.tmp 65) (Operand.tmp 66)),
          SOper.mk (some 68) (some (60, true)) (SOp.load false 1 (Operand.tmp 67)),
          SOper.mk (some 69) (some (60, true)) (SOp.un UnOp.not (Operand.tmp 68)),
          SOper.mk (some 70) none (SOp.pick (Operand.tmp 60) (Operand.tmp 69) (Operand.const (Value.bool false)))]
        [1, 2, 7, 9, 11, 12, 42, 43, 44, 52, 53, 54, 70])
      (Stmt.cond (Operand.tmp 70)
        (Stmt.region
          [SOper.mk (some 71) none (SOp.mv (Operand.tmp 7)), SOper.mk (some 72) none (SOp.fld 0 (Operand.tmp 11)),
            SOper.mk (some 73) none (SOp.load false 1 (Operand.tmp 72)),
            SOper.mk (some 74) none (SOp.idx 1 (Operand.tmp 71) (Operand.tmp 73)),
            SOper.mk (some 75) none (SOp.load false 1 (Operand.tmp 74)),
            SOper.mk (some 76) none (SOp.mv (Operand.tmp 12)),
            SOper.mk (some 77) none (SOp.idx 1 (Operand.tmp 75) (Operand.tmp 76)),
            SOper.mk none none (SOp.store 1 (Operand.tmp 77) (Operand.const (Value.bool true))),
            SOper.mk (some 9) none (SOp.mv (Operand.const (Value.bool true)))]
          [1, 2, 7, 9, 11, 42, 43, 44, 52, 53, 54])
        Stmt.skip)))
def S39_3 : Stmt :=
  Stmt.region
  [SOper.mk (some 78) none (SOp.ibin BinOp.add (Operand.tmp 54) (Operand.const (Value.int IntKind.i64 1))),
    SOper.mk (some 54) none (SOp.mv (Operand.tmp 78))]
  [1, 2, 7, 9, 11, 42, 43, 44, 52, 53, 54]
def S39_4 : Stmt :=
  Stmt.seq
  (Stmt.region [SOper.mk (some 55) none (SOp.ibin BinOp.lss (Operand.tmp 54) (Operand.tmp 53))]
    [1, 2, 7, 9, 11, 42, 43, 44, 52, 53, 54, 55])
  (Stmt.seq (Stmt.cond (Operand.tmp 55) Stmt.skip (Stmt.exit 6))
    (Stmt.join S39_2 S39_3 [9] [1, 2, 7, 11, 42, 43, 44, 52, 53, 54]))
def S39_5 : Stmt :=
  Stmt.seq
  (Stmt.region [SOper.mk (some 45) none (SOp.ibin BinOp.lss (Operand.tmp 44) (Operand.tmp 43))]
    [1, 2, 7, 9, 42, 43, 44, 45])
  (Stmt.seq (Stmt.cond (Operand.tmp 45) Stmt.skip (Stmt.exit 4))
    (Stmt.seq
      (Stmt.block 5
        (Stmt.seq
          (Stmt.region
            [SOper.mk (some 46) none (SOp.idx 2 (Operand.tmp 42) (Operand.tmp 44)),
              SOper.mk (some 47) none (SOp.load true 2 (Operand.tmp 46)),
              SOper.mk (some 11) none
                (SOp.alloc true 37 (Value.agg (Array.mk [Value.int IntKind.i64 0, Value.slice none 0 0]))),
              SOper.mk none none (SOp.store 2 (Operand.tmp 11) (Operand.tmp 47))]
            [1, 2, 7, 9, 11, 42, 43, 44])
          (Stmt.seq
            (Stmt.region
              [SOper.mk (some 48) none (SOp.fld 1 (Operand.tmp 11)),
                SOper.mk (some 49) none (SOp.load false 1 (Operand.tmp 48)),
                SOper.mk (some 50) none (SOp.mv (Operand.tmp 7)), SOper.mk (some 51) none (SOp.mv (Operand.tmp 1)),
                SOper.mk (some 52) none (SOp.call (Operand.func 113) [Operand.tmp 49, Operand.tmp 50, Operand.tmp 51]),
                SOper.mk (some 53) none (SOp.len false (Operand.tmp 52)),
                SOper.mk (some 54) none (SOp.mv (Operand.const (Value.int IntKind.i64 0)))]
              [1, 2, 7, 9, 11, 42, 43, 44, 52, 53, 54])
            (Stmt.block 6 (Stmt.loop S39_4 [9, 54] [1, 2, 7, 11, 42, 43, 44, 52, 53])))))
      (Stmt.region
        [SOper.mk (some 79) none (SOp.ibin BinOp.add (Operand.tmp 44) (Operand.const (Value.int IntKind.i64 1))),
          SOper.mk (some 44) none (SOp.mv (Operand.tmp 79))]
        [1, 2, 7, 9, 42, 43, 44])))
def S39_6 : Stmt :=
  Stmt.seq
  (Stmt.seq (Stmt.region [SOper.mk (some 40) none (SOp.mv (Operand.tmp 9))] [1, 2, 7, 40])
    (Stmt.cond (Operand.tmp 40) Stmt.skip (Stmt.exit 2)))
  (Stmt.block 3
    (Stmt.seq (Stmt.region [SOper.mk (some 9) none (SOp.mv (Operand.const (Value.bool false)))] [1, 2, 7, 9])
      (Stmt.seq
        (Stmt.region
          [SOper.mk (some 41) none (SOp.fld 3 (Operand.tmp 2)),
            SOper.mk (some 42) none (SOp.load false 1 (Operand.tmp 41)),
            SOper.mk (some 43) none (SOp.len false (Operand.tmp 42)),
            SOper.mk (some 44) none (SOp.mv (Operand.const (Value.int IntKind.i64 0)))]
          [1, 2, 7, 9, 42, 43, 44])
        (Stmt.block 4 (Stmt.loop S39_5 [9, 44] [1, 2, 7, 42, 43])))))
def S39_0 : Stmt :=
  Stmt.seq
  (Stmt.region
    [SOper.mk (some 2) none (SOp.box true 57 (Operand.tmp 0)),
      SOper.mk (some 4) none (SOp.mv (Operand.const (Value.slice none 0 0))),
      SOper.mk (some 5) none (SOp.mv (Operand.const (Value.int IntKind.i64 0)))]
    [1, 2])
  (Stmt.seq
    (Stmt.seq
      (Stmt.region
        [SOper.mk (some 14) none (SOp.load true 4 (Operand.tmp 2)),
          SOper.mk (some 15) none (SOp.call (Operand.func 112) [Operand.tmp 14]),
          SOper.mk (some 6) none (SOp.mv (Operand.tmp 15))]
        [1, 2, 6])
      (Stmt.seq
        (Stmt.region
          [SOper.mk (some 16) none (SOp.mv (Operand.tmp 6)),
            SOper.mk (some 17) none (SOp.ibin BinOp.neq (Operand.tmp 16) (Operand.const (Value.int IntKind.i64 0)))]
          [1, 2, 6, 17])
        (Stmt.cond (Operand.tmp 17)
          (Stmt.seq
            (Stmt.region
              [SOper.mk (some 18) none (SOp.mv (Operand.tmp 6)),
                SOper.mk (some 4) none (SOp.mv (Operand.const (Value.slice none 0 0))),
                SOper.mk (some 5) none (SOp.mv (Operand.tmp 18))]
              [4, 5])
            Stmt.ret)
          Stmt.skip)))
    (Stmt.seq
      (Stmt.seq
        (Stmt.region
          [SOper.mk (some 19) none (SOp.mv (Operand.tmp 1)),
            SOper.mk (some 20) none (SOp.ibin BinOp.lss (Operand.tmp 19) (Operand.const (Value.int IntKind.i64 0))),
            SOper.mk (some 21) none (SOp.mv (Operand.tmp 20)),
            SOper.mk (some 22) (some (21, false)) (SOp.mv (Operand.tmp 1)),
            SOper.mk (some 23) (some (21, false))
              (SOp.ibin BinOp.gtr (Operand.tmp 22) (Operand.const (Value.int IntKind.i64 200))),
            SOper.mk (some 24) none (SOp.pick (Operand.tmp 21) (Operand.const (Value.bool true)) (Operand.tmp 23))]
          [1, 2, 24])
        (Stmt.cond (Operand.tmp 24)
          (Stmt.seq
            (Stmt.region
              [SOper.mk (some 4) none (SOp.mv (Operand.const (Value.slice none 0 0))),
                SOper.mk (some 5) none (SOp.mv (Operand.const (Value.int IntKind.i64 1)))]
              [4, 5])
            Stmt.ret)
          Stmt.skip))
      (Stmt.seq
        (Stmt.region
          [SOper.mk (some 25) none (SOp.fld 1 (Operand.tmp 2)),
            SOper.mk (some 26) none (SOp.load false 1 (Operand.tmp 25)),
            SOper.mk (some 27) none (SOp.mk 22 1 24 (Value.slice none 0 0) (Operand.tmp 26) (Operand.tmp 26)),
            SOper.mk (some 7) none (SOp.mv (Operand.tmp 27))]
          [1, 2, 7])
        (Stmt.seq
          (Stmt.seq
            (Stmt.region
              [SOper.mk (some 28) none (SOp.mv (Operand.tmp 7)),
                SOper.mk (some 29) none (SOp.len false (Operand.tmp 28)),
                SOper.mk (some 30) none (SOp.mv (Operand.const (Value.int IntKind.i64 0)))]
              [1, 2, 7, 29, 30])
            (Stmt.block 0 (Stmt.loop S39_1 [30] [1, 2, 7, 29])))
          (Stmt.seq
            (Stmt.seq (Stmt.region [SOper.mk (some 9) none (SOp.mv (Operand.const (Value.bool true)))] [1, 2, 7, 9])
              (Stmt.block 2 (Stmt.loop S39_6 [9] [1, 2, 7])))
            (Stmt.seq
              (Stmt.region
                [SOper.mk (some 80) none (SOp.mv (Operand.tmp 7)), SOper.mk (some 81) none (SOp.fld 2 (Operand.tmp 2)),
                  SOper.mk (some 82) none (SOp.load false 1 (Operand.tmp 81)),
                  SOper.mk (some 83) none (SOp.idx 1 (Operand.tmp 80) (Operand.tmp 82)),
                  SOper.mk (some 84) none (SOp.load false 1 (Operand.tmp 83)),
                  SOper.mk (some 4) none (SOp.mv (Operand.tmp 84)),
                  SOper.mk (some 5) none (SOp.mv (Operand.const (Value.int IntKind.i64 0)))]
                [4, 5])
              Stmt.ret))))))
def S39 : FnS := ⟨85, [(4, none), (5, none)], S39_0⟩
theorem tr39 : trFn Try.prog 39 [2, 11] [[1, 2], [1, 2, 6], [1, 2, 6, 17], [4, 5], [1, 2, 24], [4, 5], [1, 2, 7], [1, 2, 7, 29, 30], [30], [1, 2, 7, 29], [1, 2, 7, 29, 30, 31], [1, 2, 7, 8, 29, 30], [1, 2, 7, 29, 30], [1, 2, 7, 29, 30], [1, 2, 7, 9], [9], [1, 2, 7], [1, 2, 7, 40], [1, 2, 7, 9], [1, 2, 7, 9, 42, 43, 44], [9, 44], [1, 2, 7, 42, 43], [1, 2, 7, 9, 42, 43, 44, 45], [1, 2, 7, 9, 11, 42, 43, 44], [1, 2, 7, 9, 11, 42, 43, 44, 52, 53, 54], [9, 54], [1, 2, 7, 11, 42, 43, 44, 52, 53], [1, 2, 7, 9, 11, 42, 43, 44, 52, 53, 54, 55], [9], [1, 2, 7, 11, 42, 43, 44, 52, 53, 54], [1, 2, 7, 9, 11, 12, 13, 42, 43, 44, 52, 53, 54], [1, 2, 7, 9, 11, 12, 42, 43, 44, 52, 53, 54, 70], [1, 2, 7, 9, 11, 42, 43, 44, 52, 53, 54], [1, 2, 7, 9, 11, 42, 43, 44, 52, 53, 54], [1, 2, 7, 9, 42, 43, 44], [4, 5]] = some S39 := by kernel_rfl
end Go.Proofs.Ytniobbepliknmaa.V
