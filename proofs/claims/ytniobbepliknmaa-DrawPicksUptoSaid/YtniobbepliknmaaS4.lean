/- The text of parlance/parllaw5.DrawPicks as a statement (slots: 0 weights, 1 coins, 2 weights, 3 coins, 5 x, 6 k, 7 e, 8 x, 9 k, 10 e, 11 all, 12 _, 13 w, 14 y, 15 j, 16 ok, 17 i, 18 w); no condition. -/
import Derived.Test.YtniobbepliknmaaVh
import Derived.Test.YtniobbepliknmaaProg
namespace Go.Proofs.Ytniobbepliknmaa.V
open Go
def S4_1 : Stmt :=
  Stmt.seq
  (Stmt.region [SOper.mk (some 59) none (SOp.ibin BinOp.lss (Operand.tmp 58) (Operand.tmp 57))]
    [0, 1, 8, 9, 10, 11, 56, 57, 58, 59])
  (Stmt.seq (Stmt.cond (Operand.tmp 59) Stmt.skip (Stmt.exit 0))
    (Stmt.seq
      (Stmt.block 1
        (Stmt.seq
          (Stmt.region
            [SOper.mk (some 60) none (SOp.idx 1 (Operand.tmp 56) (Operand.tmp 58)),
              SOper.mk (some 61) none (SOp.load false 1 (Operand.tmp 60)),
              SOper.mk (some 13) none (SOp.mv (Operand.tmp 61))]
            [0, 1, 8, 9, 10, 11, 13, 56, 57, 58])
          (Stmt.seq
            (Stmt.seq
              (Stmt.region
                [SOper.mk (some 62) none (SOp.mv (Operand.tmp 13)),
                  SOper.mk (some 63) none
                    (SOp.ibin BinOp.lss (Operand.tmp 62) (Operand.const (Value.int IntKind.i64 0))),
                  SOper.mk (some 64) none (SOp.mv (Operand.tmp 63)),
                  SOper.mk (some 65) (some (64, false)) (SOp.mv (Operand.tmp 13)),
                  SOper.mk (some 66) (some (64, false))
                    (SOp.ibin BinOp.gtr (Operand.tmp 65) (Operand.const (Value.int IntKind.i64 1000000))),
                  SOper.mk (some 67) none
                    (SOp.pick (Operand.tmp 64) (Operand.const (Value.bool true)) (Operand.tmp 66))]
                [0, 1, 8, 9, 10, 11, 13, 56, 57, 58, 67])
              (Stmt.cond (Operand.tmp 67)
                (Stmt.seq
                  (Stmt.region
                    [SOper.mk (some 68) none (SOp.mv (Operand.tmp 10)),
                      SOper.mk (some 69) none
                        (SOp.ibin BinOp.eql (Operand.tmp 68) (Operand.const (Value.int IntKind.i64 1))),
                      SOper.mk (some 70) none (SOp.mv (Operand.tmp 69)),
                      SOper.mk (some 71) (some (70, true)) (SOp.mv (Operand.tmp 8)),
                      SOper.mk (some 72) (some (70, true))
                        (SOp.ibin BinOp.eql (Operand.tmp 71) (Operand.const (Value.int IntKind.i64 0))),
                      SOper.mk (some 73) none
                        (SOp.pick (Operand.tmp 70) (Operand.tmp 72) (Operand.const (Value.bool false))),
                      SOper.mk (some 74) none (SOp.mv (Operand.tmp 73)),
                      SOper.mk (some 75) (some (74, true)) (SOp.mv (Operand.tmp 9)),
                      SOper.mk (some 76) (some (74, true))
                        (SOp.ibin BinOp.eql (Operand.tmp 75) (Operand.const (Value.int IntKind.i64 0))),
                      SOper.mk (some 77) none
                        (SOp.pick (Operand.tmp 74) (Operand.tmp 76) (Operand.const (Value.bool false))),
                      SOper.mk (some 4) none (SOp.mv (Operand.tmp 77))]
                    [4])
                  Stmt.ret)
                Stmt.skip))
            (Stmt.region
              [SOper.mk (some 78) none (SOp.mv (Operand.tmp 11)), SOper.mk (some 79) none (SOp.mv (Operand.tmp 13)),
                SOper.mk (some 80) none (SOp.ibin BinOp.add (Operand.tmp 78) (Operand.tmp 79)),
                SOper.mk (some 11) none (SOp.mv (Operand.tmp 80))]
              [0, 1, 8, 9, 10, 11, 56, 57, 58]))))
      (Stmt.region
        [SOper.mk (some 81) none (SOp.ibin BinOp.add (Operand.tmp 58) (Operand.const (Value.int IntKind.i64 1))),
          SOper.mk (some 58) none (SOp.mv (Operand.tmp 81))]
        [0, 1, 8, 9, 10, 11, 56, 57, 58])))
def S4_2 : Stmt :=
  Stmt.seq
  (Stmt.region [SOper.mk (some 116) none (SOp.ibin BinOp.lss (Operand.tmp 115) (Operand.tmp 114))]
    [8, 9, 10, 14, 15, 113, 114, 115, 116])
  (Stmt.seq (Stmt.cond (Operand.tmp 116) Stmt.skip (Stmt.exit 2))
    (Stmt.seq
      (Stmt.block 3
        (Stmt.seq
          (Stmt.region
            [SOper.mk (some 117) none (SOp.mv (Operand.tmp 115)),
              SOper.mk (some 118) none (SOp.idx 1 (Operand.tmp 113) (Operand.tmp 115)),
              SOper.mk (some 119) none (SOp.load false 1 (Operand.tmp 118)),
              SOper.mk (some 17) none (SOp.mv (Operand.tmp 117)), SOper.mk (some 18) none (SOp.mv (Operand.tmp 119))]
            [8, 9, 10, 14, 15, 17, 18, 113, 114, 115])
          (Stmt.seq
            (Stmt.seq
              (Stmt.region
                [SOper.mk (some 120) none (SOp.mv (Operand.tmp 14)), SOper.mk (some 121) none (SOp.mv (Operand.tmp 18)),
                  SOper.mk (some 122) none (SOp.ibin BinOp.lss (Operand.tmp 120) (Operand.tmp 121))]
                [8, 9, 10, 14, 15, 17, 18, 113, 114, 115, 122])
              (Stmt.cond (Operand.tmp 122)
                (Stmt.seq
                  (Stmt.region
                    [SOper.mk (some 123) none (SOp.mv (Operand.tmp 10)),
                      SOper.mk (some 124) none
                        (SOp.ibin BinOp.eql (Operand.tmp 123) (Operand.const (Value.int IntKind.i64 0))),
                      SOper.mk (some 125) none (SOp.mv (Operand.tmp 124)),
                      SOper.mk (some 126) (some (125, true)) (SOp.mv (Operand.tmp 8)),
                      SOper.mk (some 127) (some (125, true)) (SOp.mv (Operand.tmp 17)),
                      SOper.mk (some 128) (some (125, true)) (SOp.ibin BinOp.eql (Operand.tmp 126) (Operand.tmp 127)),
                      SOper.mk (some 129) none
                        (SOp.pick (Operand.tmp 125) (Operand.tmp 128) (Operand.const (Value.bool false))),
                      SOper.mk (some 130) none (SOp.mv (Operand.tmp 129)),
                      SOper.mk (some 131) (some (130, true)) (SOp.mv (Operand.tmp 9)),
                      SOper.mk (some 132) (some (130, true)) (SOp.mv (Operand.tmp 15)),
                      SOper.mk (some 133) (some (130, true)) (SOp.ibin BinOp.eql (Operand.tmp 131) (Operand.tmp 132)),
                      SOper.mk (some 134) none
                        (SOp.pick (Operand.tmp 130) (Operand.tmp 133) (Operand.const (Value.bool false))),
                      SOper.mk (some 4) none (SOp.mv (Operand.tmp 134))]
                    [4])
                  Stmt.ret)
                Stmt.skip))
            (Stmt.region
              [SOper.mk (some 135) none (SOp.mv (Operand.tmp 14)), SOper.mk (some 136) none (SOp.mv (Operand.tmp 18)),
                SOper.mk (some 137) none (SOp.ibin BinOp.sub (Operand.tmp 135) (Operand.tmp 136)),
                SOper.mk (some 14) none (SOp.mv (Operand.tmp 137))]
              [8, 9, 10, 14, 15, 113, 114, 115]))))
      (Stmt.region
        [SOper.mk (some 138) none (SOp.ibin BinOp.add (Operand.tmp 115) (Operand.const (Value.int IntKind.i64 1))),
          SOper.mk (some 115) none (SOp.mv (Operand.tmp 138))]
        [8, 9, 10, 14, 15, 113, 114, 115])))
def S4_0 : Stmt :=
  Stmt.seq (Stmt.region [SOper.mk (some 4) none (SOp.mv (Operand.const (Value.bool false)))] [0, 1])
  (Stmt.seq
    (Stmt.seq
      (Stmt.region
        [SOper.mk (some 20) none
            (SOp.buildS 3 2 [Value.int IntKind.i64 0, Value.int IntKind.i64 0]
              [(0, 1, Operand.const (Value.int IntKind.i64 0)), (1, 1, Operand.const (Value.int IntKind.i64 5))]),
          SOper.mk (some 21) none
            (SOp.mk 4 1 1 (Value.bool false) (Operand.const (Value.int IntKind.i64 3))
              (Operand.const (Value.int IntKind.i64 3))),
          SOper.mk (some 22) none (SOp.call (Operand.func 23) [Operand.tmp 20, Operand.tmp 21]),
          SOper.mk (some 19) none (SOp.mv (Operand.tmp 22)), SOper.mk (some 23) none (SOp.extract 0 (Operand.tmp 19)),
          SOper.mk (some 24) none (SOp.extract 1 (Operand.tmp 19)),
          SOper.mk (some 25) none (SOp.extract 2 (Operand.tmp 19)), SOper.mk (some 5) none (SOp.mv (Operand.tmp 23)),
          SOper.mk (some 6) none (SOp.mv (Operand.tmp 24)), SOper.mk (some 7) none (SOp.mv (Operand.tmp 25))]
        [0, 1, 5, 6, 7])
      (Stmt.seq
        (Stmt.region
          [SOper.mk (some 26) none (SOp.mv (Operand.tmp 5)),
            SOper.mk (some 27) none (SOp.ibin BinOp.neq (Operand.tmp 26) (Operand.const (Value.int IntKind.i64 1))),
            SOper.mk (some 28) none (SOp.mv (Operand.tmp 27)),
            SOper.mk (some 29) (some (28, false)) (SOp.mv (Operand.tmp 6)),
            SOper.mk (some 30) (some (28, false))
              (SOp.ibin BinOp.neq (Operand.tmp 29) (Operand.const (Value.int IntKind.i64 3))),
            SOper.mk (some 31) none (SOp.pick (Operand.tmp 28) (Operand.const (Value.bool true)) (Operand.tmp 30)),
            SOper.mk (some 32) none (SOp.mv (Operand.tmp 31)),
            SOper.mk (some 33) (some (32, false)) (SOp.mv (Operand.tmp 7)),
            SOper.mk (some 34) (some (32, false))
              (SOp.ibin BinOp.neq (Operand.tmp 33) (Operand.const (Value.int IntKind.i64 0))),
            SOper.mk (some 35) none (SOp.pick (Operand.tmp 32) (Operand.const (Value.bool true)) (Operand.tmp 34))]
          [0, 1, 35])
        (Stmt.cond (Operand.tmp 35)
          (Stmt.seq (Stmt.region [SOper.mk (some 4) none (SOp.mv (Operand.const (Value.bool false)))] [4]) Stmt.ret)
          Stmt.skip)))
    (Stmt.seq
      (Stmt.region
        [SOper.mk (some 37) none (SOp.mv (Operand.tmp 0)), SOper.mk (some 38) none (SOp.mv (Operand.tmp 1)),
          SOper.mk (some 39) none (SOp.call (Operand.func 23) [Operand.tmp 37, Operand.tmp 38]),
          SOper.mk (some 36) none (SOp.mv (Operand.tmp 39)), SOper.mk (some 40) none (SOp.extract 0 (Operand.tmp 36)),
          SOper.mk (some 41) none (SOp.extract 1 (Operand.tmp 36)),
          SOper.mk (some 42) none (SOp.extract 2 (Operand.tmp 36)), SOper.mk (some 8) none (SOp.mv (Operand.tmp 40)),
          SOper.mk (some 9) none (SOp.mv (Operand.tmp 41)), SOper.mk (some 10) none (SOp.mv (Operand.tmp 42))]
        [0, 1, 8, 9, 10])
      (Stmt.seq
        (Stmt.seq
          (Stmt.region
            [SOper.mk (some 43) none (SOp.mv (Operand.tmp 0)), SOper.mk (some 44) none (SOp.len false (Operand.tmp 43)),
              SOper.mk (some 45) none (SOp.ibin BinOp.gtr (Operand.tmp 44) (Operand.const (Value.int IntKind.i64 100)))]
            [0, 1, 8, 9, 10, 45])
          (Stmt.cond (Operand.tmp 45)
            (Stmt.seq
              (Stmt.region
                [SOper.mk (some 46) none (SOp.mv (Operand.tmp 10)),
                  SOper.mk (some 47) none
                    (SOp.ibin BinOp.eql (Operand.tmp 46) (Operand.const (Value.int IntKind.i64 2))),
                  SOper.mk (some 48) none (SOp.mv (Operand.tmp 47)),
                  SOper.mk (some 49) (some (48, true)) (SOp.mv (Operand.tmp 8)),
                  SOper.mk (some 50) (some (48, true))
                    (SOp.ibin BinOp.eql (Operand.tmp 49) (Operand.const (Value.int IntKind.i64 0))),
                  SOper.mk (some 51) none
                    (SOp.pick (Operand.tmp 48) (Operand.tmp 50) (Operand.const (Value.bool false))),
                  SOper.mk (some 52) none (SOp.mv (Operand.tmp 51)),
                  SOper.mk (some 53) (some (52, true)) (SOp.mv (Operand.tmp 9)),
                  SOper.mk (some 54) (some (52, true))
                    (SOp.ibin BinOp.eql (Operand.tmp 53) (Operand.const (Value.int IntKind.i64 0))),
                  SOper.mk (some 55) none
                    (SOp.pick (Operand.tmp 52) (Operand.tmp 54) (Operand.const (Value.bool false))),
                  SOper.mk (some 4) none (SOp.mv (Operand.tmp 55))]
                [4])
              Stmt.ret)
            Stmt.skip))
        (Stmt.seq
          (Stmt.region [SOper.mk (some 11) none (SOp.mv (Operand.const (Value.int IntKind.i64 0)))]
            [0, 1, 8, 9, 10, 11])
          (Stmt.seq
            (Stmt.seq
              (Stmt.region
                [SOper.mk (some 56) none (SOp.mv (Operand.tmp 0)),
                  SOper.mk (some 57) none (SOp.len false (Operand.tmp 56)),
                  SOper.mk (some 58) none (SOp.mv (Operand.const (Value.int IntKind.i64 0)))]
                [0, 1, 8, 9, 10, 11, 56, 57, 58])
              (Stmt.block 0 (Stmt.loop S4_1 [11, 58] [0, 1, 8, 9, 10, 56, 57])))
            (Stmt.seq
              (Stmt.seq
                (Stmt.region
                  [SOper.mk (some 82) none (SOp.mv (Operand.tmp 11)),
                    SOper.mk (some 83) none
                      (SOp.ibin BinOp.eql (Operand.tmp 82) (Operand.const (Value.int IntKind.i64 0)))]
                  [0, 1, 8, 9, 10, 11, 83])
                (Stmt.cond (Operand.tmp 83)
                  (Stmt.seq
                    (Stmt.region
                      [SOper.mk (some 84) none (SOp.mv (Operand.tmp 10)),
                        SOper.mk (some 85) none
                          (SOp.ibin BinOp.eql (Operand.tmp 84) (Operand.const (Value.int IntKind.i64 1))),
                        SOper.mk (some 86) none (SOp.mv (Operand.tmp 85)),
                        SOper.mk (some 87) (some (86, true)) (SOp.mv (Operand.tmp 8)),
                        SOper.mk (some 88) (some (86, true))
                          (SOp.ibin BinOp.eql (Operand.tmp 87) (Operand.const (Value.int IntKind.i64 0))),
                        SOper.mk (some 89) none
                          (SOp.pick (Operand.tmp 86) (Operand.tmp 88) (Operand.const (Value.bool false))),
                        SOper.mk (some 90) none (SOp.mv (Operand.tmp 89)),
                        SOper.mk (some 91) (some (90, true)) (SOp.mv (Operand.tmp 9)),
                        SOper.mk (some 92) (some (90, true))
                          (SOp.ibin BinOp.eql (Operand.tmp 91) (Operand.const (Value.int IntKind.i64 0))),
                        SOper.mk (some 93) none
                          (SOp.pick (Operand.tmp 90) (Operand.tmp 92) (Operand.const (Value.bool false))),
                        SOper.mk (some 4) none (SOp.mv (Operand.tmp 93))]
                      [4])
                    Stmt.ret)
                  Stmt.skip))
              (Stmt.seq
                (Stmt.region
                  [SOper.mk (some 95) none (SOp.mv (Operand.tmp 11)), SOper.mk (some 96) none (SOp.mv (Operand.tmp 1)),
                    SOper.mk (some 97) none (SOp.call (Operand.func 22) [Operand.tmp 95, Operand.tmp 96]),
                    SOper.mk (some 94) none (SOp.mv (Operand.tmp 97)),
                    SOper.mk (some 98) none (SOp.extract 0 (Operand.tmp 94)),
                    SOper.mk (some 99) none (SOp.extract 1 (Operand.tmp 94)),
                    SOper.mk (some 100) none (SOp.extract 2 (Operand.tmp 94)),
                    SOper.mk (some 14) none (SOp.mv (Operand.tmp 98)),
                    SOper.mk (some 15) none (SOp.mv (Operand.tmp 99)),
                    SOper.mk (some 16) none (SOp.mv (Operand.tmp 100))]
                  [0, 8, 9, 10, 14, 15, 16])
                (Stmt.seq
                  (Stmt.seq
                    (Stmt.region
                      [SOper.mk (some 101) none (SOp.mv (Operand.tmp 16)),
                        SOper.mk (some 102) none (SOp.un UnOp.not (Operand.tmp 101))]
                      [0, 8, 9, 10, 14, 15, 102])
                    (Stmt.cond (Operand.tmp 102)
                      (Stmt.seq
                        (Stmt.region
                          [SOper.mk (some 103) none (SOp.mv (Operand.tmp 10)),
                            SOper.mk (some 104) none
                              (SOp.ibin BinOp.eql (Operand.tmp 103) (Operand.const (Value.int IntKind.i64 5))),
                            SOper.mk (some 105) none (SOp.mv (Operand.tmp 104)),
                            SOper.mk (some 106) (some (105, true)) (SOp.mv (Operand.tmp 8)),
                            SOper.mk (some 107) (some (105, true))
                              (SOp.ibin BinOp.eql (Operand.tmp 106) (Operand.const (Value.int IntKind.i64 0))),
                            SOper.mk (some 108) none
                              (SOp.pick (Operand.tmp 105) (Operand.tmp 107) (Operand.const (Value.bool false))),
                            SOper.mk (some 109) none (SOp.mv (Operand.tmp 108)),
                            SOper.mk (some 110) (some (109, true)) (SOp.mv (Operand.tmp 9)),
                            SOper.mk (some 111) (some (109, true))
                              (SOp.ibin BinOp.eql (Operand.tmp 110) (Operand.const (Value.int IntKind.i64 0))),
                            SOper.mk (some 112) none
                              (SOp.pick (Operand.tmp 109) (Operand.tmp 111) (Operand.const (Value.bool false))),
                            SOper.mk (some 4) none (SOp.mv (Operand.tmp 112))]
                          [4])
                        Stmt.ret)
                      Stmt.skip))
                  (Stmt.seq
                    (Stmt.seq
                      (Stmt.region
                        [SOper.mk (some 113) none (SOp.mv (Operand.tmp 0)),
                          SOper.mk (some 114) none (SOp.len false (Operand.tmp 113)),
                          SOper.mk (some 115) none (SOp.mv (Operand.const (Value.int IntKind.i64 0)))]
                        [8, 9, 10, 14, 15, 113, 114, 115])
                      (Stmt.block 2 (Stmt.loop S4_2 [14, 115] [8, 9, 10, 15, 113, 114])))
                    (Stmt.seq (Stmt.region [SOper.mk (some 4) none (SOp.mv (Operand.const (Value.bool false)))] [4])
                      Stmt.ret))))))))))
def S4 : FnS := ⟨139, [4], S4_0⟩
theorem tr4 : trFn Try.prog 4 [] [[0, 1], [0, 1, 5, 6, 7], [0, 1, 35], [4], [0, 1, 8, 9, 10], [0, 1, 8, 9, 10, 45], [4], [0, 1, 8, 9, 10, 11], [0, 1, 8, 9, 10, 11, 56, 57, 58], [11, 58], [0, 1, 8, 9, 10, 56, 57], [0, 1, 8, 9, 10, 11, 56, 57, 58, 59], [0, 1, 8, 9, 10, 11, 13, 56, 57, 58], [0, 1, 8, 9, 10, 11, 13, 56, 57, 58, 67], [4], [0, 1, 8, 9, 10, 11, 56, 57, 58], [0, 1, 8, 9, 10, 11, 56, 57, 58], [0, 1, 8, 9, 10, 11, 83], [4], [0, 8, 9, 10, 14, 15, 16], [0, 8, 9, 10, 14, 15, 102], [4], [8, 9, 10, 14, 15, 113, 114, 115], [14, 115], [8, 9, 10, 15, 113, 114], [8, 9, 10, 14, 15, 113, 114, 115, 116], [8, 9, 10, 14, 15, 17, 18, 113, 114, 115], [8, 9, 10, 14, 15, 17, 18, 113, 114, 115, 122], [4], [8, 9, 10, 14, 15, 113, 114, 115], [8, 9, 10, 14, 15, 113, 114, 115], [4]] = some S4 := by kernel_rfl
end Go.Proofs.Ytniobbepliknmaa.V
