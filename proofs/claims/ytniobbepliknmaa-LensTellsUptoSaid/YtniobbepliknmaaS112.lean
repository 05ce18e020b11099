/- The text of parlance/gram.Check as a statement (slots: 0 g, 1 g, 3 i, 4 r, 5 _, 6 s, 7 _, 8 q); no condition. -/
import Derived.Test.YtniobbepliknmaaVh
import Derived.Test.YtniobbepliknmaaProg
namespace Go.Proofs.Ytniobbepliknmaa.V
open Go
def S112_1 : Stmt :=
  Stmt.seq
  (Stmt.region [SOper.mk (some 69) none (SOp.ibin BinOp.lss (Operand.tmp 68) (Operand.tmp 67))]
    [1, 3, 4, 44, 45, 46, 66, 67, 68, 69])
  (Stmt.seq (Stmt.cond (Operand.tmp 69) Stmt.skip (Stmt.exit 2))
    (Stmt.seq
      (Stmt.block 3
        (Stmt.seq
          (Stmt.region
            [SOper.mk (some 70) none (SOp.idx 2 (Operand.tmp 66) (Operand.tmp 68)),
              SOper.mk (some 71) none (SOp.load true 2 (Operand.tmp 70)),
              SOper.mk (some 6) none
                (SOp.alloc true 39 (Value.agg (Array.mk [Value.bool false, Value.int IntKind.i64 0]))),
              SOper.mk none none (SOp.store 2 (Operand.tmp 6) (Operand.tmp 71))]
            [1, 3, 4, 6, 44, 45, 46, 66, 67, 68])
          (Stmt.seq
            (Stmt.region
              [SOper.mk (some 72) none (SOp.fld 1 (Operand.tmp 6)),
                SOper.mk (some 73) none (SOp.load false 1 (Operand.tmp 72)),
                SOper.mk (some 74) none (SOp.ibin BinOp.lss (Operand.tmp 73) (Operand.const (Value.int IntKind.i64 0))),
                SOper.mk (some 75) none (SOp.mv (Operand.tmp 74)),
                SOper.mk (some 76) (some (75, false)) (SOp.fld 0 (Operand.tmp 6)),
                SOper.mk (some 77) (some (75, false)) (SOp.load false 1 (Operand.tmp 76)),
                SOper.mk (some 78) (some (75, false)) (SOp.mv (Operand.tmp 77)),
                SOper.mk (some 79) (some (78, true)) (SOp.fld 1 (Operand.tmp 6)),
                SOper.mk (some 80) (some (78, true)) (SOp.load false 1 (Operand.tmp 79)),
                SOper.mk (some 81) (some (78, true)) (SOp.fld 0 (Operand.tmp 1)),
                SOper.mk (some 82) (some (78, true)) (SOp.load false 1 (Operand.tmp 81)),
                SOper.mk (some 83) (some (78, true)) (SOp.ibin BinOp.geq (Operand.tmp 80) (Operand.tmp 82)),
                SOper.mk (some 84) (some (75, false))
                  (SOp.pick (Operand.tmp 78) (Operand.tmp 83) (Operand.const (Value.bool false))),
                SOper.mk (some 85) none (SOp.pick (Operand.tmp 75) (Operand.const (Value.bool true)) (Operand.tmp 84)),
                SOper.mk (some 86) none (SOp.mv (Operand.tmp 85)),
                SOper.mk (some 87) (some (86, false)) (SOp.fld 0 (Operand.tmp 6)),
                SOper.mk (some 88) (some (86, false)) (SOp.load false 1 (Operand.tmp 87)),
                SOper.mk (some 89) (some (86, false)) (SOp.un UnOp.not (Operand.tmp 88)),
                SOper.mk (some 90) (some (86, false)) (SOp.mv (Operand.tmp 89)),
                SOper.mk (some 91) (some (90, true)) (SOp.fld 1 (Operand.tmp 6)),
                SOper.mk (some 92) (some (90, true)) (SOp.load false 1 (Operand.tmp 91)),
                SOper.mk (some 93) (some (90, true)) (SOp.fld 1 (Operand.tmp 1)),
                SOper.mk (some 94) (some (90, true)) (SOp.load false 1 (Operand.tmp 93)),
                SOper.mk (some 95) (some (90, true)) (SOp.ibin BinOp.geq (Operand.tmp 92) (Operand.tmp 94)),
                SOper.mk (some 96) (some (86, false))
                  (SOp.pick (Operand.tmp 90) (Operand.tmp 95) (Operand.const (Value.bool false))),
                SOper.mk (some 97) none (SOp.pick (Operand.tmp 86) (Operand.const (Value.bool true)) (Operand.tmp 96))]
              [1, 3, 4, 44, 45, 46, 66, 67, 68, 97])
            (Stmt.cond (Operand.tmp 97)
              (Stmt.seq (Stmt.region [SOper.mk (some 2) none (SOp.mv (Operand.const (Value.int IntKind.i64 3)))] [2])
                Stmt.ret)
              Stmt.skip))))
      (Stmt.region
        [SOper.mk (some 98) none (SOp.ibin BinOp.add (Operand.tmp 68) (Operand.const (Value.int IntKind.i64 1))),
          SOper.mk (some 68) none (SOp.mv (Operand.tmp 98))]
        [1, 3, 4, 44, 45, 46, 66, 67, 68])))
def S112_2 : Stmt :=
  Stmt.seq
  (Stmt.region [SOper.mk (some 105) none (SOp.ibin BinOp.lss (Operand.tmp 104) (Operand.tmp 103))]
    [1, 4, 44, 45, 46, 102, 103, 104, 105])
  (Stmt.seq (Stmt.cond (Operand.tmp 105) Stmt.skip (Stmt.exit 4))
    (Stmt.seq
      (Stmt.block 5
        (Stmt.seq
          (Stmt.region
            [SOper.mk (some 106) none (SOp.idx 2 (Operand.tmp 102) (Operand.tmp 104)),
              SOper.mk (some 107) none (SOp.load true 2 (Operand.tmp 106)),
              SOper.mk (some 8) none
                (SOp.alloc true 37 (Value.agg (Array.mk [Value.int IntKind.i64 0, Value.slice none 0 0]))),
              SOper.mk none none (SOp.store 2 (Operand.tmp 8) (Operand.tmp 107))]
            [1, 4, 8, 44, 45, 46, 102, 103, 104])
          (Stmt.seq
            (Stmt.region
              [SOper.mk (some 108) none (SOp.load true 2 (Operand.tmp 8)),
                SOper.mk (some 109) none (SOp.load true 2 (Operand.tmp 4)),
                SOper.mk (some 110) none (SOp.call (Operand.func 172) [Operand.tmp 108, Operand.tmp 109]),
                SOper.mk (some 111) none
                  (SOp.ibin BinOp.eql (Operand.tmp 110) (Operand.const (Value.int IntKind.i64 0)))]
              [1, 4, 44, 45, 46, 102, 103, 104, 111])
            (Stmt.cond (Operand.tmp 111)
              (Stmt.seq (Stmt.region [SOper.mk (some 2) none (SOp.mv (Operand.const (Value.int IntKind.i64 6)))] [2])
                Stmt.ret)
              Stmt.skip))))
      (Stmt.region
        [SOper.mk (some 112) none (SOp.ibin BinOp.add (Operand.tmp 104) (Operand.const (Value.int IntKind.i64 1))),
          SOper.mk (some 104) none (SOp.mv (Operand.tmp 112))]
        [1, 4, 44, 45, 46, 102, 103, 104])))
def S112_3 : Stmt :=
  Stmt.seq
  (Stmt.region [SOper.mk (some 47) none (SOp.ibin BinOp.lss (Operand.tmp 46) (Operand.tmp 45))] [1, 44, 45, 46, 47])
  (Stmt.seq (Stmt.cond (Operand.tmp 47) Stmt.skip (Stmt.exit 0))
    (Stmt.seq
      (Stmt.block 1
        (Stmt.seq
          (Stmt.region
            [SOper.mk (some 48) none (SOp.mv (Operand.tmp 46)),
              SOper.mk (some 49) none (SOp.idx 2 (Operand.tmp 44) (Operand.tmp 46)),
              SOper.mk (some 50) none (SOp.load true 2 (Operand.tmp 49)),
              SOper.mk (some 4) none
                (SOp.alloc true 37 (Value.agg (Array.mk [Value.int IntKind.i64 0, Value.slice none 0 0]))),
              SOper.mk (some 3) none (SOp.mv (Operand.tmp 48)),
              SOper.mk none none (SOp.store 2 (Operand.tmp 4) (Operand.tmp 50))]
            [1, 3, 4, 44, 45, 46])
          (Stmt.seq
            (Stmt.seq
              (Stmt.region
                [SOper.mk (some 51) none (SOp.fld 0 (Operand.tmp 4)),
                  SOper.mk (some 52) none (SOp.load false 1 (Operand.tmp 51)),
                  SOper.mk (some 53) none
                    (SOp.ibin BinOp.lss (Operand.tmp 52) (Operand.const (Value.int IntKind.i64 0))),
                  SOper.mk (some 54) none (SOp.mv (Operand.tmp 53)),
                  SOper.mk (some 55) (some (54, false)) (SOp.fld 0 (Operand.tmp 4)),
                  SOper.mk (some 56) (some (54, false)) (SOp.load false 1 (Operand.tmp 55)),
                  SOper.mk (some 57) (some (54, false)) (SOp.fld 1 (Operand.tmp 1)),
                  SOper.mk (some 58) (some (54, false)) (SOp.load false 1 (Operand.tmp 57)),
                  SOper.mk (some 59) (some (54, false)) (SOp.ibin BinOp.geq (Operand.tmp 56) (Operand.tmp 58)),
                  SOper.mk (some 60) none
                    (SOp.pick (Operand.tmp 54) (Operand.const (Value.bool true)) (Operand.tmp 59))]
                [1, 3, 4, 44, 45, 46, 60])
              (Stmt.cond (Operand.tmp 60)
                (Stmt.seq (Stmt.region [SOper.mk (some 2) none (SOp.mv (Operand.const (Value.int IntKind.i64 3)))] [2])
                  Stmt.ret)
                Stmt.skip))
            (Stmt.seq
              (Stmt.seq
                (Stmt.region
                  [SOper.mk (some 61) none (SOp.fld 1 (Operand.tmp 4)),
                    SOper.mk (some 62) none (SOp.load false 1 (Operand.tmp 61)),
                    SOper.mk (some 63) none (SOp.len false (Operand.tmp 62)),
                    SOper.mk (some 64) none
                      (SOp.ibin BinOp.gtr (Operand.tmp 63) (Operand.const (Value.int IntKind.i64 4)))]
                  [1, 3, 4, 44, 45, 46, 64])
                (Stmt.cond (Operand.tmp 64)
                  (Stmt.seq
                    (Stmt.region [SOper.mk (some 2) none (SOp.mv (Operand.const (Value.int IntKind.i64 2)))] [2])
                    Stmt.ret)
                  Stmt.skip))
              (Stmt.seq
                (Stmt.seq
                  (Stmt.region
                    [SOper.mk (some 65) none (SOp.fld 1 (Operand.tmp 4)),
                      SOper.mk (some 66) none (SOp.load false 1 (Operand.tmp 65)),
                      SOper.mk (some 67) none (SOp.len false (Operand.tmp 66)),
                      SOper.mk (some 68) none (SOp.mv (Operand.const (Value.int IntKind.i64 0)))]
                    [1, 3, 4, 44, 45, 46, 66, 67, 68])
                  (Stmt.block 2 (Stmt.loop S112_1 [68] [1, 3, 4, 44, 45, 46, 66, 67])))
                (Stmt.seq
                  (Stmt.region
                    [SOper.mk (some 99) none (SOp.fld 3 (Operand.tmp 1)),
                      SOper.mk (some 100) none (SOp.load false 1 (Operand.tmp 99)),
                      SOper.mk (some 101) none (SOp.mv (Operand.tmp 3)),
                      SOper.mk (some 102) none (SOp.slc 2 (Operand.tmp 100) none (some (Operand.tmp 101)) none),
                      SOper.mk (some 103) none (SOp.len false (Operand.tmp 102)),
                      SOper.mk (some 104) none (SOp.mv (Operand.const (Value.int IntKind.i64 0)))]
                    [1, 4, 44, 45, 46, 102, 103, 104])
                  (Stmt.block 4 (Stmt.loop S112_2 [104] [1, 4, 44, 45, 46, 102, 103]))))))))
      (Stmt.region
        [SOper.mk (some 113) none (SOp.ibin BinOp.add (Operand.tmp 46) (Operand.const (Value.int IntKind.i64 1))),
          SOper.mk (some 46) none (SOp.mv (Operand.tmp 113))]
        [1, 44, 45, 46])))
def S112_0 : Stmt :=
  Stmt.seq
  (Stmt.region
    [SOper.mk (some 1) none (SOp.box true 57 (Operand.tmp 0)),
      SOper.mk (some 2) none (SOp.mv (Operand.const (Value.int IntKind.i64 0)))]
    [1])
  (Stmt.seq
    (Stmt.seq
      (Stmt.region
        [SOper.mk (some 9) none (SOp.fld 0 (Operand.tmp 1)), SOper.mk (some 10) none (SOp.load false 1 (Operand.tmp 9)),
          SOper.mk (some 11) none (SOp.ibin BinOp.lss (Operand.tmp 10) (Operand.const (Value.int IntKind.i64 1))),
          SOper.mk (some 12) none (SOp.mv (Operand.tmp 11)),
          SOper.mk (some 13) (some (12, false)) (SOp.fld 0 (Operand.tmp 1)),
          SOper.mk (some 14) (some (12, false)) (SOp.load false 1 (Operand.tmp 13)),
          SOper.mk (some 15) (some (12, false))
            (SOp.ibin BinOp.gtr (Operand.tmp 14) (Operand.const (Value.int IntKind.i64 8))),
          SOper.mk (some 16) none (SOp.pick (Operand.tmp 12) (Operand.const (Value.bool true)) (Operand.tmp 15)),
          SOper.mk (some 17) none (SOp.mv (Operand.tmp 16)),
          SOper.mk (some 18) (some (17, false)) (SOp.fld 1 (Operand.tmp 1)),
          SOper.mk (some 19) (some (17, false)) (SOp.load false 1 (Operand.tmp 18)),
          SOper.mk (some 20) (some (17, false))
            (SOp.ibin BinOp.lss (Operand.tmp 19) (Operand.const (Value.int IntKind.i64 1))),
          SOper.mk (some 21) none (SOp.pick (Operand.tmp 17) (Operand.const (Value.bool true)) (Operand.tmp 20)),
          SOper.mk (some 22) none (SOp.mv (Operand.tmp 21)),
          SOper.mk (some 23) (some (22, false)) (SOp.fld 1 (Operand.tmp 1)),
          SOper.mk (some 24) (some (22, false)) (SOp.load false 1 (Operand.tmp 23)),
          SOper.mk (some 25) (some (22, false))
            (SOp.ibin BinOp.gtr (Operand.tmp 24) (Operand.const (Value.int IntKind.i64 10))),
          SOper.mk (some 26) none (SOp.pick (Operand.tmp 22) (Operand.const (Value.bool true)) (Operand.tmp 25)),
          SOper.mk (some 27) none (SOp.mv (Operand.tmp 26)),
          SOper.mk (some 28) (some (27, false)) (SOp.fld 2 (Operand.tmp 1)),
          SOper.mk (some 29) (some (27, false)) (SOp.load false 1 (Operand.tmp 28)),
          SOper.mk (some 30) (some (27, false))
            (SOp.ibin BinOp.lss (Operand.tmp 29) (Operand.const (Value.int IntKind.i64 0))),
          SOper.mk (some 31) none (SOp.pick (Operand.tmp 27) (Operand.const (Value.bool true)) (Operand.tmp 30)),
          SOper.mk (some 32) none (SOp.mv (Operand.tmp 31)),
          SOper.mk (some 33) (some (32, false)) (SOp.fld 2 (Operand.tmp 1)),
          SOper.mk (some 34) (some (32, false)) (SOp.load false 1 (Operand.tmp 33)),
          SOper.mk (some 35) (some (32, false)) (SOp.fld 1 (Operand.tmp 1)),
          SOper.mk (some 36) (some (32, false)) (SOp.load false 1 (Operand.tmp 35)),
          SOper.mk (some 37) (some (32, false)) (SOp.ibin BinOp.geq (Operand.tmp 34) (Operand.tmp 36)),
          SOper.mk (some 38) none (SOp.pick (Operand.tmp 32) (Operand.const (Value.bool true)) (Operand.tmp 37))]
        [1, 38])
      (Stmt.cond (Operand.tmp 38)
        (Stmt.seq (Stmt.region [SOper.mk (some 2) none (SOp.mv (Operand.const (Value.int IntKind.i64 1)))] [2])
          Stmt.ret)
        Stmt.skip))
    (Stmt.seq
      (Stmt.seq
        (Stmt.region
          [SOper.mk (some 39) none (SOp.fld 3 (Operand.tmp 1)),
            SOper.mk (some 40) none (SOp.load false 1 (Operand.tmp 39)),
            SOper.mk (some 41) none (SOp.len false (Operand.tmp 40)),
            SOper.mk (some 42) none (SOp.ibin BinOp.gtr (Operand.tmp 41) (Operand.const (Value.int IntKind.i64 32)))]
          [1, 42])
        (Stmt.cond (Operand.tmp 42)
          (Stmt.seq (Stmt.region [SOper.mk (some 2) none (SOp.mv (Operand.const (Value.int IntKind.i64 2)))] [2])
            Stmt.ret)
          Stmt.skip))
      (Stmt.seq
        (Stmt.seq
          (Stmt.region
            [SOper.mk (some 43) none (SOp.fld 3 (Operand.tmp 1)),
              SOper.mk (some 44) none (SOp.load false 1 (Operand.tmp 43)),
              SOper.mk (some 45) none (SOp.len false (Operand.tmp 44)),
              SOper.mk (some 46) none (SOp.mv (Operand.const (Value.int IntKind.i64 0)))]
            [1, 44, 45, 46])
          (Stmt.block 0 (Stmt.loop S112_3 [46] [1, 44, 45])))
        (Stmt.seq (Stmt.region [SOper.mk (some 2) none (SOp.mv (Operand.const (Value.int IntKind.i64 0)))] [2])
          Stmt.ret))))
def S112 : FnS := ⟨114, [(2, none)], S112_0⟩
theorem tr112 : trFn Try.prog 112 [1, 4, 6, 8] [[1], [1, 38], [2], [1, 42], [2], [1, 44, 45, 46], [46], [1, 44, 45], [1, 44, 45, 46, 47], [1, 3, 4, 44, 45, 46], [1, 3, 4, 44, 45, 46, 60], [2], [1, 3, 4, 44, 45, 46, 64], [2], [1, 3, 4, 44, 45, 46, 66, 67, 68], [68], [1, 3, 4, 44, 45, 46, 66, 67], [1, 3, 4, 44, 45, 46, 66, 67, 68, 69], [1, 3, 4, 6, 44, 45, 46, 66, 67, 68], [1, 3, 4, 44, 45, 46, 66, 67, 68, 97], [2], [1, 3, 4, 44, 45, 46, 66, 67, 68], [1, 4, 44, 45, 46, 102, 103, 104], [104], [1, 4, 44, 45, 46, 102, 103], [1, 4, 44, 45, 46, 102, 103, 104, 105], [1, 4, 8, 44, 45, 46, 102, 103, 104], [1, 4, 44, 45, 46, 102, 103, 104, 111], [2], [1, 4, 44, 45, 46, 102, 103, 104], [1, 44, 45, 46], [2]] = some S112 := by kernel_rfl
end Go.Proofs.Ytniobbepliknmaa.V
