/- The text of parlance/parllaw5.ShrinkWords as a statement (slots: 0 w, 1 a, 2 b, 3 w, 4 a, 5 b, 7 l, 8 e, 9 fails, 10 l, 11 e, 12 m, 13 f, 14 bad); no condition. -/
import Derived.Test.YtniobbepliknmaaVh
import Derived.Test.YtniobbepliknmaaProg
namespace Go.Proofs.Ytniobbepliknmaa.V
open Go
def S7_0 : Stmt :=
  Stmt.seq (Stmt.region [SOper.mk (some 6) none (SOp.mv (Operand.const (Value.bool false)))] [0, 1, 2])
  (Stmt.seq
    (Stmt.seq
      (Stmt.region
        [SOper.mk (some 16) none
            (SOp.buildS 3 3 [Value.int IntKind.i64 0, Value.int IntKind.i64 0, Value.int IntKind.i64 0]
              [(0, 1, Operand.const (Value.int IntKind.i64 1)), (1, 1, Operand.const (Value.int IntKind.i64 2)),
                (2, 1, Operand.const (Value.int IntKind.i64 3))]),
          SOper.mk (some 17) none (SOp.call (Operand.func 30) [Operand.tmp 16, Operand.func 31]),
          SOper.mk (some 15) none (SOp.mv (Operand.tmp 17)), SOper.mk (some 18) none (SOp.extract 0 (Operand.tmp 15)),
          SOper.mk (some 19) none (SOp.extract 1 (Operand.tmp 15)), SOper.mk (some 7) none (SOp.mv (Operand.tmp 18)),
          SOper.mk (some 8) none (SOp.mv (Operand.tmp 19))]
        [0, 1, 2, 7, 8])
      (Stmt.seq
        (Stmt.region
          [SOper.mk (some 20) none (SOp.mv (Operand.tmp 8)),
            SOper.mk (some 21) none (SOp.ibin BinOp.neq (Operand.tmp 20) (Operand.const (Value.int IntKind.i64 0))),
            SOper.mk (some 22) none (SOp.mv (Operand.tmp 21)),
            SOper.mk (some 23) (some (22, false)) (SOp.mv (Operand.tmp 7)),
            SOper.mk (some 24) (some (22, false))
              (SOp.buildS 3 1 [Value.int IntKind.i64 0] [(0, 1, Operand.const (Value.int IntKind.i64 2))]),
            SOper.mk (some 25) (some (22, false)) (SOp.call (Operand.func 28) [Operand.tmp 23, Operand.tmp 24]),
            SOper.mk (some 26) (some (22, false)) (SOp.un UnOp.not (Operand.tmp 25)),
            SOper.mk (some 27) none (SOp.pick (Operand.tmp 22) (Operand.const (Value.bool true)) (Operand.tmp 26))]
          [0, 1, 2, 27])
        (Stmt.cond (Operand.tmp 27)
          (Stmt.seq (Stmt.region [SOper.mk (some 6) none (SOp.mv (Operand.const (Value.bool false)))] [6]) Stmt.ret)
          Stmt.skip)))
    (Stmt.seq
      (Stmt.region
        [SOper.mk (some 28) none (SOp.mv (Operand.tmp 1)),
          SOper.mk (some 29) none
            (SOp.fn (Fk.bits BinOp.and) [Operand.tmp 28, Operand.const (Value.int IntKind.i64 7)]),
          SOper.mk (some 30) none (SOp.mv (Operand.tmp 2)),
          SOper.mk (some 31) none
            (SOp.fn (Fk.bits BinOp.and) [Operand.tmp 30, Operand.const (Value.int IntKind.i64 7)]),
          SOper.mk (some 32) none (SOp.call (Operand.func 33) [Operand.tmp 29, Operand.tmp 31]),
          SOper.mk (some 9) none (SOp.mv (Operand.tmp 32))]
        [0, 9])
      (Stmt.seq
        (Stmt.region
          [SOper.mk (some 34) none (SOp.mv (Operand.tmp 0)), SOper.mk (some 35) none (SOp.mv (Operand.tmp 9)),
            SOper.mk (some 36) none (SOp.call (Operand.func 30) [Operand.tmp 34, Operand.tmp 35]),
            SOper.mk (some 33) none (SOp.mv (Operand.tmp 36)), SOper.mk (some 37) none (SOp.extract 0 (Operand.tmp 33)),
            SOper.mk (some 38) none (SOp.extract 1 (Operand.tmp 33)), SOper.mk (some 10) none (SOp.mv (Operand.tmp 37)),
            SOper.mk (some 11) none (SOp.mv (Operand.tmp 38))]
          [0, 9, 10, 11])
        (Stmt.seq
          (Stmt.region
            [SOper.mk (some 40) none (SOp.mv (Operand.tmp 0)), SOper.mk (some 41) none (SOp.mv (Operand.tmp 9)),
              SOper.mk (some 42) none (SOp.call (Operand.func 34) [Operand.tmp 40, Operand.tmp 41]),
              SOper.mk (some 39) none (SOp.mv (Operand.tmp 42)),
              SOper.mk (some 43) none (SOp.extract 0 (Operand.tmp 39)),
              SOper.mk (some 44) none (SOp.extract 1 (Operand.tmp 39)),
              SOper.mk (some 12) none (SOp.mv (Operand.tmp 43)), SOper.mk (some 13) none (SOp.mv (Operand.tmp 44))]
            [0, 9, 10, 11, 12, 13])
          (Stmt.seq
            (Stmt.seq
              (Stmt.region
                [SOper.mk (some 45) none (SOp.mv (Operand.tmp 0)),
                  SOper.mk (some 46) none (SOp.len false (Operand.tmp 45)),
                  SOper.mk (some 47) none
                    (SOp.ibin BinOp.gtr (Operand.tmp 46) (Operand.const (Value.int IntKind.i64 60)))]
                [0, 9, 10, 11, 12, 13, 47])
              (Stmt.cond (Operand.tmp 47)
                (Stmt.seq
                  (Stmt.region
                    [SOper.mk (some 48) none (SOp.mv (Operand.tmp 11)),
                      SOper.mk (some 49) none
                        (SOp.ibin BinOp.eql (Operand.tmp 48) (Operand.const (Value.int IntKind.i64 2))),
                      SOper.mk (some 50) none (SOp.mv (Operand.tmp 49)),
                      SOper.mk (some 51) (some (50, true)) (SOp.mv (Operand.tmp 13)),
                      SOper.mk (some 52) (some (50, true)) (SOp.mv (Operand.tmp 11)),
                      SOper.mk (some 53) (some (50, true)) (SOp.ibin BinOp.eql (Operand.tmp 51) (Operand.tmp 52)),
                      SOper.mk (some 54) none
                        (SOp.pick (Operand.tmp 50) (Operand.tmp 53) (Operand.const (Value.bool false))),
                      SOper.mk (some 55) none (SOp.mv (Operand.tmp 54)),
                      SOper.mk (some 56) (some (55, true)) (SOp.mv (Operand.tmp 10)),
                      SOper.mk (some 57) (some (55, true)) (SOp.len false (Operand.tmp 56)),
                      SOper.mk (some 58) (some (55, true)) (SOp.mv (Operand.tmp 12)),
                      SOper.mk (some 59) (some (55, true)) (SOp.len false (Operand.tmp 58)),
                      SOper.mk (some 60) (some (55, true)) (SOp.ibin BinOp.add (Operand.tmp 57) (Operand.tmp 59)),
                      SOper.mk (some 61) (some (55, true))
                        (SOp.ibin BinOp.eql (Operand.tmp 60) (Operand.const (Value.int IntKind.i64 0))),
                      SOper.mk (some 62) none
                        (SOp.pick (Operand.tmp 55) (Operand.tmp 61) (Operand.const (Value.bool false))),
                      SOper.mk (some 6) none (SOp.mv (Operand.tmp 62))]
                    [6])
                  Stmt.ret)
                Stmt.skip))
            (Stmt.seq
              (Stmt.region
                [SOper.mk (some 63) none (SOp.mv (Operand.tmp 0)),
                  SOper.mk (some 64) none (SOp.call (Operand.func 35) [Operand.tmp 63, Operand.func 36]),
                  SOper.mk (some 14) none (SOp.mv (Operand.tmp 64))]
                [0, 9, 10, 11, 12, 13, 14])
              (Stmt.seq
                (Stmt.seq
                  (Stmt.region
                    [SOper.mk (some 65) none (SOp.mv (Operand.tmp 14)),
                      SOper.mk (some 66) none (SOp.mv (Operand.tmp 65)),
                      SOper.mk (some 67) (some (66, true)) (SOp.mv (Operand.tmp 13)),
                      SOper.mk (some 68) (some (66, true))
                        (SOp.ibin BinOp.neq (Operand.tmp 67) (Operand.const (Value.int IntKind.i64 1))),
                      SOper.mk (some 69) (some (66, true)) (SOp.mv (Operand.tmp 68)),
                      SOper.mk (some 70) (some (69, false)) (SOp.mv (Operand.tmp 12)),
                      SOper.mk (some 71) (some (69, false)) (SOp.len false (Operand.tmp 70)),
                      SOper.mk (some 72) (some (69, false))
                        (SOp.ibin BinOp.gtr (Operand.tmp 71) (Operand.const (Value.int IntKind.i64 0))),
                      SOper.mk (some 73) (some (66, true))
                        (SOp.pick (Operand.tmp 69) (Operand.const (Value.bool true)) (Operand.tmp 72)),
                      SOper.mk (some 74) none
                        (SOp.pick (Operand.tmp 66) (Operand.tmp 73) (Operand.const (Value.bool false)))]
                    [0, 9, 10, 11, 12, 13, 14, 74])
                  (Stmt.cond (Operand.tmp 74)
                    (Stmt.seq (Stmt.region [SOper.mk (some 6) none (SOp.mv (Operand.const (Value.bool false)))] [6])
                      Stmt.ret)
                    Stmt.skip))
                (Stmt.seq
                  (Stmt.seq
                    (Stmt.region
                      [SOper.mk (some 75) none (SOp.mv (Operand.tmp 9)),
                        SOper.mk (some 76) none (SOp.mv (Operand.tmp 0)),
                        SOper.mk (some 77) none (SOp.call (Operand.tmp 75) [Operand.tmp 76]),
                        SOper.mk (some 78) none (SOp.un UnOp.not (Operand.tmp 77))]
                      [0, 9, 10, 11, 12, 13, 14, 78])
                    (Stmt.cond (Operand.tmp 78)
                      (Stmt.seq
                        (Stmt.region
                          [SOper.mk (some 79) none (SOp.mv (Operand.tmp 11)),
                            SOper.mk (some 80) none
                              (SOp.ibin BinOp.eql (Operand.tmp 79) (Operand.const (Value.int IntKind.i64 7))),
                            SOper.mk (some 81) none (SOp.mv (Operand.tmp 80)),
                            SOper.mk (some 82) (some (81, true)) (SOp.mv (Operand.tmp 14)),
                            SOper.mk (some 83) (some (81, true)) (SOp.mv (Operand.tmp 82)),
                            SOper.mk (some 84) (some (83, false)) (SOp.mv (Operand.tmp 13)),
                            SOper.mk (some 85) (some (83, false)) (SOp.mv (Operand.tmp 11)),
                            SOper.mk (some 86) (some (83, false))
                              (SOp.ibin BinOp.eql (Operand.tmp 84) (Operand.tmp 85)),
                            SOper.mk (some 87) (some (81, true))
                              (SOp.pick (Operand.tmp 83) (Operand.const (Value.bool true)) (Operand.tmp 86)),
                            SOper.mk (some 88) none
                              (SOp.pick (Operand.tmp 81) (Operand.tmp 87) (Operand.const (Value.bool false))),
                            SOper.mk (some 89) none (SOp.mv (Operand.tmp 88)),
                            SOper.mk (some 90) (some (89, true)) (SOp.mv (Operand.tmp 10)),
                            SOper.mk (some 91) (some (89, true)) (SOp.len false (Operand.tmp 90)),
                            SOper.mk (some 92) (some (89, true)) (SOp.mv (Operand.tmp 12)),
                            SOper.mk (some 93) (some (89, true)) (SOp.len false (Operand.tmp 92)),
                            SOper.mk (some 94) (some (89, true)) (SOp.ibin BinOp.add (Operand.tmp 91) (Operand.tmp 93)),
                            SOper.mk (some 95) (some (89, true))
                              (SOp.ibin BinOp.eql (Operand.tmp 94) (Operand.const (Value.int IntKind.i64 0))),
                            SOper.mk (some 96) none
                              (SOp.pick (Operand.tmp 89) (Operand.tmp 95) (Operand.const (Value.bool false))),
                            SOper.mk (some 6) none (SOp.mv (Operand.tmp 96))]
                          [6])
                        Stmt.ret)
                      Stmt.skip))
                  (Stmt.seq
                    (Stmt.seq
                      (Stmt.region
                        [SOper.mk (some 97) none (SOp.mv (Operand.tmp 11)),
                          SOper.mk (some 98) none
                            (SOp.ibin BinOp.neq (Operand.tmp 97) (Operand.const (Value.int IntKind.i64 0))),
                          SOper.mk (some 99) none (SOp.mv (Operand.tmp 98)),
                          SOper.mk (some 100) (some (99, false)) (SOp.mv (Operand.tmp 10)),
                          SOper.mk (some 101) (some (99, false)) (SOp.mv (Operand.tmp 0)),
                          SOper.mk (some 102) (some (99, false)) (SOp.mv (Operand.tmp 9)),
                          SOper.mk (some 103) (some (99, false))
                            (SOp.call (Operand.func 37) [Operand.tmp 101, Operand.tmp 102]),
                          SOper.mk (some 104) (some (99, false))
                            (SOp.call (Operand.func 28) [Operand.tmp 100, Operand.tmp 103]),
                          SOper.mk (some 105) (some (99, false)) (SOp.un UnOp.not (Operand.tmp 104)),
                          SOper.mk (some 106) none
                            (SOp.pick (Operand.tmp 99) (Operand.const (Value.bool true)) (Operand.tmp 105))]
                        [0, 9, 12, 13, 14, 106])
                      (Stmt.cond (Operand.tmp 106)
                        (Stmt.seq (Stmt.region [SOper.mk (some 6) none (SOp.mv (Operand.const (Value.bool false)))] [6])
                          Stmt.ret)
                        Stmt.skip))
                    (Stmt.seq
                      (Stmt.region
                        [SOper.mk (some 107) none (SOp.mv (Operand.tmp 14)),
                          SOper.mk (some 108) none (SOp.mv (Operand.tmp 107)),
                          SOper.mk (some 109) (some (108, false)) (SOp.mv (Operand.tmp 13)),
                          SOper.mk (some 110) (some (108, false))
                            (SOp.ibin BinOp.eql (Operand.tmp 109) (Operand.const (Value.int IntKind.i64 0))),
                          SOper.mk (some 111) (some (108, false)) (SOp.mv (Operand.tmp 110)),
                          SOper.mk (some 112) (some (111, true)) (SOp.mv (Operand.tmp 12)),
                          SOper.mk (some 113) (some (111, true)) (SOp.mv (Operand.tmp 0)),
                          SOper.mk (some 114) (some (111, true)) (SOp.mv (Operand.tmp 9)),
                          SOper.mk (some 115) (some (111, true))
                            (SOp.call (Operand.func 38) [Operand.tmp 113, Operand.tmp 114]),
                          SOper.mk (some 116) (some (111, true))
                            (SOp.call (Operand.func 28) [Operand.tmp 112, Operand.tmp 115]),
                          SOper.mk (some 117) (some (108, false))
                            (SOp.pick (Operand.tmp 111) (Operand.tmp 116) (Operand.const (Value.bool false))),
                          SOper.mk (some 118) none
                            (SOp.pick (Operand.tmp 108) (Operand.const (Value.bool true)) (Operand.tmp 117)),
                          SOper.mk (some 6) none (SOp.mv (Operand.tmp 118))]
                        [6])
                      Stmt.ret))))))))))
def S7 : FnS := ⟨119, [(6, none)], S7_0⟩
theorem tr7 : trFn Try.prog 7 [] [[0, 1, 2], [0, 1, 2, 7, 8], [0, 1, 2, 27], [6], [0, 9], [0, 9, 10, 11], [0, 9, 10, 11, 12, 13], [0, 9, 10, 11, 12, 13, 47], [6], [0, 9, 10, 11, 12, 13, 14], [0, 9, 10, 11, 12, 13, 14, 74], [6], [0, 9, 10, 11, 12, 13, 14, 78], [6], [0, 9, 12, 13, 14, 106], [6], [6]] = some S7 := by kernel_rfl
end Go.Proofs.Ytniobbepliknmaa.V
