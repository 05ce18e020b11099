/- The text of parlance/parlref5.lengthsOf$1 as a statement (slots: 0 x, 5 x); no condition. -/
import Derived.Test.YtniobbepliknmaaVh
import Derived.Test.YtniobbepliknmaaProg
namespace Go.Proofs.Ytniobbepliknmaa.V
open Go
def S173_0 : Stmt :=
  Stmt.seq (Stmt.region [SOper.mk (some 5) none (SOp.box true 223 (Operand.tmp 0))] [1, 2, 3, 4, 5])
  (Stmt.seq
    (Stmt.region
      [SOper.mk (some 6) none (SOp.fld 2 (Operand.tmp 5)), SOper.mk (some 7) none (SOp.load false 1 (Operand.tmp 6)),
        SOper.mk (some 8) none (SOp.load false 1 (Operand.tmp 1)),
        SOper.mk (some 9) none (SOp.ibin BinOp.leq (Operand.tmp 7) (Operand.tmp 8)),
        SOper.mk (some 10) none (SOp.mv (Operand.tmp 9)),
        SOper.mk (some 11) (some (10, true)) (SOp.load false 1 (Operand.tmp 2)),
        SOper.mk (some 12) (some (10, true)) (SOp.load true 3 (Operand.tmp 5)),
        SOper.mk (some 13) (some (10, true)) (SOp.q (Qk.look 220 false) [Operand.tmp 11, Operand.tmp 12]),
        SOper.mk (some 14) (some (10, true)) (SOp.un UnOp.not (Operand.tmp 13)),
        SOper.mk (some 15) none (SOp.pick (Operand.tmp 10) (Operand.tmp 14) (Operand.const (Value.bool false)))]
      [2, 3, 4, 5, 15])
    (Stmt.cond (Operand.tmp 15)
      (Stmt.seq
        (Stmt.region
          [SOper.mk (some 16) none (SOp.load false 1 (Operand.tmp 2)),
            SOper.mk (some 17) none (SOp.load true 3 (Operand.tmp 5)),
            SOper.mk none none (SOp.a (Qk.upd 220) [Operand.tmp 16, Operand.tmp 17, Operand.const (Value.bool true)])]
          [3, 4, 5])
        (Stmt.tree
          (DT.q (false, SOper.mk (some 18) none (SOp.load false 1 (Operand.tmp 3)))
            (DT.q (false, SOper.mk (some 19) none (SOp.load true 3 (Operand.tmp 5)))
              (DT.q (true, SOper.mk (some 23) none (SOp.load true 3 (Operand.tmp 5)))
                (DT.alt
                  (false,
                    SOper.mk (some 20) none
                      (SOp.buildS 223 1 [Value.int IntKind.i64 0, Value.int IntKind.i64 0, Value.int IntKind.i64 0]
                        [(0, 3, Operand.tmp 19)]))
                  (DT.alt
                    (false,
                      SOper.mk (some 21) none
                        (SOp.append 221 223 3 24
                          (Value.agg
                            (Array.mk [Value.int IntKind.i64 0, Value.int IntKind.i64 0, Value.int IntKind.i64 0]))
                          (Operand.tmp 18) (Operand.tmp 20)))
                    (DT.alt (false, SOper.mk (some 22) none (SOp.load false 1 (Operand.tmp 4)))
                      (DT.alt
                        (false,
                          SOper.mk (some 24) none
                            (SOp.buildS 223 1
                              [Value.int IntKind.i64 0, Value.int IntKind.i64 0, Value.int IntKind.i64 0]
                              [(0, 3, Operand.tmp 23)]))
                        (DT.alt
                          (false,
                            SOper.mk (some 25) none
                              (SOp.append 221 223 3 24
                                (Value.agg
                                  (Array.mk
                                    [Value.int IntKind.i64 0, Value.int IntKind.i64 0, Value.int IntKind.i64 0]))
                                (Operand.tmp 22) (Operand.tmp 24)))
                          (DT.alt (false, SOper.mk none none (SOp.store 1 (Operand.tmp 3) (Operand.tmp 21)))
                            (DT.alt (false, SOper.mk none none (SOp.store 1 (Operand.tmp 4) (Operand.tmp 25))) DT.fin
                              DT.no)
                            DT.no)
                          DT.no)
                        DT.no)
                      (DT.alt
                        (false,
                          SOper.mk (some 24) none
                            (SOp.buildS 223 1
                              [Value.int IntKind.i64 0, Value.int IntKind.i64 0, Value.int IntKind.i64 0]
                              [(0, 3, Operand.tmp 23)]))
                        (DT.alt (false, SOper.mk (some 22) none (SOp.load false 1 (Operand.tmp 4)))
                          (DT.alt
                            (false,
                              SOper.mk (some 25) none
                                (SOp.append 221 223 3 24
                                  (Value.agg
                                    (Array.mk
                                      [Value.int IntKind.i64 0, Value.int IntKind.i64 0, Value.int IntKind.i64 0]))
                                  (Operand.tmp 22) (Operand.tmp 24)))
                            (DT.alt (false, SOper.mk none none (SOp.store 1 (Operand.tmp 3) (Operand.tmp 21)))
                              (DT.alt (false, SOper.mk none none (SOp.store 1 (Operand.tmp 4) (Operand.tmp 25))) DT.fin
                                DT.no)
                              DT.no)
                            DT.no)
                          DT.no)
                        DT.no))
                    (DT.alt (false, SOper.mk (some 22) none (SOp.load false 1 (Operand.tmp 4)))
                      (DT.alt
                        (false,
                          SOper.mk (some 21) none
                            (SOp.append 221 223 3 24
                              (Value.agg
                                (Array.mk [Value.int IntKind.i64 0, Value.int IntKind.i64 0, Value.int IntKind.i64 0]))
                              (Operand.tmp 18) (Operand.tmp 20)))
                        (DT.alt
                          (false,
                            SOper.mk (some 24) none
                              (SOp.buildS 223 1
                                [Value.int IntKind.i64 0, Value.int IntKind.i64 0, Value.int IntKind.i64 0]
                                [(0, 3, Operand.tmp 23)]))
                          (DT.alt
                            (false,
                              SOper.mk (some 25) none
                                (SOp.append 221 223 3 24
                                  (Value.agg
                                    (Array.mk
                                      [Value.int IntKind.i64 0, Value.int IntKind.i64 0, Value.int IntKind.i64 0]))
                                  (Operand.tmp 22) (Operand.tmp 24)))
                            (DT.alt (false, SOper.mk none none (SOp.store 1 (Operand.tmp 3) (Operand.tmp 21)))
                              (DT.alt (false, SOper.mk none none (SOp.store 1 (Operand.tmp 4) (Operand.tmp 25))) DT.fin
                                DT.no)
                              DT.no)
                            DT.no)
                          DT.no)
                        (DT.alt
                          (false,
                            SOper.mk (some 24) none
                              (SOp.buildS 223 1
                                [Value.int IntKind.i64 0, Value.int IntKind.i64 0, Value.int IntKind.i64 0]
                                [(0, 3, Operand.tmp 23)]))
                          (DT.alt
                            (false,
                              SOper.mk (some 21) none
                                (SOp.append 221 223 3 24
                                  (Value.agg
                                    (Array.mk
                                      [Value.int IntKind.i64 0, Value.int IntKind.i64 0, Value.int IntKind.i64 0]))
                                  (Operand.tmp 18) (Operand.tmp 20)))
                            (DT.alt
                              (false,
                                SOper.mk (some 25) none
                                  (SOp.append 221 223 3 24
                                    (Value.agg
                                      (Array.mk
                                        [Value.int IntKind.i64 0, Value.int IntKind.i64 0, Value.int IntKind.i64 0]))
                                    (Operand.tmp 22) (Operand.tmp 24)))
                              (DT.alt (false, SOper.mk none none (SOp.store 1 (Operand.tmp 3) (Operand.tmp 21)))
                                (DT.alt (false, SOper.mk none none (SOp.store 1 (Operand.tmp 4) (Operand.tmp 25)))
                                  DT.fin DT.no)
                                DT.no)
                              DT.no)
                            DT.no)
                          DT.no))
                      (DT.alt
                        (false,
                          SOper.mk (some 24) none
                            (SOp.buildS 223 1
                              [Value.int IntKind.i64 0, Value.int IntKind.i64 0, Value.int IntKind.i64 0]
                              [(0, 3, Operand.tmp 23)]))
                        (DT.alt
                          (false,
                            SOper.mk (some 21) none
                              (SOp.append 221 223 3 24
                                (Value.agg
                                  (Array.mk
                                    [Value.int IntKind.i64 0, Value.int IntKind.i64 0, Value.int IntKind.i64 0]))
                                (Operand.tmp 18) (Operand.tmp 20)))
                          (DT.alt (false, SOper.mk (some 22) none (SOp.load false 1 (Operand.tmp 4)))
                            (DT.alt
                              (false,
                                SOper.mk (some 25) none
                                  (SOp.append 221 223 3 24
                                    (Value.agg
                                      (Array.mk
                                        [Value.int IntKind.i64 0, Value.int IntKind.i64 0, Value.int IntKind.i64 0]))
                                    (Operand.tmp 22) (Operand.tmp 24)))
                              (DT.alt (false, SOper.mk none none (SOp.store 1 (Operand.tmp 3) (Operand.tmp 21)))
                                (DT.alt (false, SOper.mk none none (SOp.store 1 (Operand.tmp 4) (Operand.tmp 25)))
                                  DT.fin DT.no)
                                DT.no)
                              DT.no)
                            DT.no)
                          (DT.alt (false, SOper.mk (some 22) none (SOp.load false 1 (Operand.tmp 4)))
                            (DT.alt
                              (false,
                                SOper.mk (some 21) none
                                  (SOp.append 221 223 3 24
                                    (Value.agg
                                      (Array.mk
                                        [Value.int IntKind.i64 0, Value.int IntKind.i64 0, Value.int IntKind.i64 0]))
                                    (Operand.tmp 18) (Operand.tmp 20)))
                              (DT.alt
                                (false,
                                  SOper.mk (some 25) none
                                    (SOp.append 221 223 3 24
                                      (Value.agg
                                        (Array.mk
                                          [Value.int IntKind.i64 0, Value.int IntKind.i64 0, Value.int IntKind.i64 0]))
                                      (Operand.tmp 22) (Operand.tmp 24)))
                                (DT.alt (false, SOper.mk none none (SOp.store 1 (Operand.tmp 3) (Operand.tmp 21)))
                                  (DT.alt (false, SOper.mk none none (SOp.store 1 (Operand.tmp 4) (Operand.tmp 25)))
                                    DT.fin DT.no)
                                  DT.no)
                                DT.no)
                              DT.no)
                            DT.no))
                        DT.no)))
                  (DT.alt (false, SOper.mk (some 22) none (SOp.load false 1 (Operand.tmp 4)))
                    (DT.alt
                      (false,
                        SOper.mk (some 20) none
                          (SOp.buildS 223 1 [Value.int IntKind.i64 0, Value.int IntKind.i64 0, Value.int IntKind.i64 0]
                            [(0, 3, Operand.tmp 19)]))
                      (DT.alt
                        (false,
                          SOper.mk (some 21) none
                            (SOp.append 221 223 3 24
                              (Value.agg
                                (Array.mk [Value.int IntKind.i64 0, Value.int IntKind.i64 0, Value.int IntKind.i64 0]))
                              (Operand.tmp 18) (Operand.tmp 20)))
                        (DT.alt
                          (false,
                            SOper.mk (some 24) none
                              (SOp.buildS 223 1
                                [Value.int IntKind.i64 0, Value.int IntKind.i64 0, Value.int IntKind.i64 0]
                                [(0, 3, Operand.tmp 23)]))
                          (DT.alt
                            (false,
                              SOper.mk (some 25) none
                                (SOp.append 221 223 3 24
                                  (Value.agg
                                    (Array.mk
                                      [Value.int IntKind.i64 0, Value.int IntKind.i64 0, Value.int IntKind.i64 0]))
                                  (Operand.tmp 22) (Operand.tmp 24)))
                            (DT.alt (false, SOper.mk none none (SOp.store 1 (Operand.tmp 3) (Operand.tmp 21)))
                              (DT.alt (false, SOper.mk none none (SOp.store 1 (Operand.tmp 4) (Operand.tmp 25))) DT.fin
                                DT.no)
                              DT.no)
                            DT.no)
                          DT.no)
                        (DT.alt
                          (false,
                            SOper.mk (some 24) none
                              (SOp.buildS 223 1
                                [Value.int IntKind.i64 0, Value.int IntKind.i64 0, Value.int IntKind.i64 0]
                                [(0, 3, Operand.tmp 23)]))
                          (DT.alt
                            (false,
                              SOper.mk (some 21) none
                                (SOp.append 221 223 3 24
                                  (Value.agg
                                    (Array.mk
                                      [Value.int IntKind.i64 0, Value.int IntKind.i64 0, Value.int IntKind.i64 0]))
                                  (Operand.tmp 18) (Operand.tmp 20)))
                            (DT.alt
                              (false,
                                SOper.mk (some 25) none
                                  (SOp.append 221 223 3 24
                                    (Value.agg
                                      (Array.mk
                                        [Value.int IntKind.i64 0, Value.int IntKind.i64 0, Value.int IntKind.i64 0]))
                                    (Operand.tmp 22) (Operand.tmp 24)))
                              (DT.alt (false, SOper.mk none none (SOp.store 1 (Operand.tmp 3) (Operand.tmp 21)))
                                (DT.alt (false, SOper.mk none none (SOp.store 1 (Operand.tmp 4) (Operand.tmp 25)))
                                  DT.fin DT.no)
                                DT.no)
                              DT.no)
                            DT.no)
                          DT.no))
                      (DT.alt
                        (false,
                          SOper.mk (some 24) none
                            (SOp.buildS 223 1
                              [Value.int IntKind.i64 0, Value.int IntKind.i64 0, Value.int IntKind.i64 0]
                              [(0, 3, Operand.tmp 23)]))
                        (DT.alt
                          (false,
                            SOper.mk (some 20) none
                              (SOp.buildS 223 1
                                [Value.int IntKind.i64 0, Value.int IntKind.i64 0, Value.int IntKind.i64 0]
                                [(0, 3, Operand.tmp 19)]))
                          (DT.alt
                            (false,
                              SOper.mk (some 21) none
                                (SOp.append 221 223 3 24
                                  (Value.agg
                                    (Array.mk
                                      [Value.int IntKind.i64 0, Value.int IntKind.i64 0, Value.int IntKind.i64 0]))
                                  (Operand.tmp 18) (Operand.tmp 20)))
                            (DT.alt
                              (false,
                                SOper.mk (some 25) none
                                  (SOp.append 221 223 3 24
                                    (Value.agg
                                      (Array.mk
                                        [Value.int IntKind.i64 0, Value.int IntKind.i64 0, Value.int IntKind.i64 0]))
                                    (Operand.tmp 22) (Operand.tmp 24)))
                              (DT.alt (false, SOper.mk none none (SOp.store 1 (Operand.tmp 3) (Operand.tmp 21)))
                                (DT.alt (false, SOper.mk none none (SOp.store 1 (Operand.tmp 4) (Operand.tmp 25)))
                                  DT.fin DT.no)
                                DT.no)
                              DT.no)
                            DT.no)
                          DT.no)
                        DT.no))
                    (DT.alt
                      (false,
                        SOper.mk (some 24) none
                          (SOp.buildS 223 1 [Value.int IntKind.i64 0, Value.int IntKind.i64 0, Value.int IntKind.i64 0]
                            [(0, 3, Operand.tmp 23)]))
                      (DT.alt
                        (false,
                          SOper.mk (some 20) none
                            (SOp.buildS 223 1
                              [Value.int IntKind.i64 0, Value.int IntKind.i64 0, Value.int IntKind.i64 0]
                              [(0, 3, Operand.tmp 19)]))
                        (DT.alt
                          (false,
                            SOper.mk (some 21) none
                              (SOp.append 221 223 3 24
                                (Value.agg
                                  (Array.mk
                                    [Value.int IntKind.i64 0, Value.int IntKind.i64 0, Value.int IntKind.i64 0]))
                                (Operand.tmp 18) (Operand.tmp 20)))
                          (DT.alt (false, SOper.mk (some 22) none (SOp.load false 1 (Operand.tmp 4)))
                            (DT.alt
                              (false,
                                SOper.mk (some 25) none
                                  (SOp.append 221 223 3 24
                                    (Value.agg
                                      (Array.mk
                                        [Value.int IntKind.i64 0, Value.int IntKind.i64 0, Value.int IntKind.i64 0]))
                                    (Operand.tmp 22) (Operand.tmp 24)))
                              (DT.alt (false, SOper.mk none none (SOp.store 1 (Operand.tmp 3) (Operand.tmp 21)))
                                (DT.alt (false, SOper.mk none none (SOp.store 1 (Operand.tmp 4) (Operand.tmp 25)))
                                  DT.fin DT.no)
                                DT.no)
                              DT.no)
                            DT.no)
                          (DT.alt (false, SOper.mk (some 22) none (SOp.load false 1 (Operand.tmp 4)))
                            (DT.alt
                              (false,
                                SOper.mk (some 21) none
                                  (SOp.append 221 223 3 24
                                    (Value.agg
                                      (Array.mk
                                        [Value.int IntKind.i64 0, Value.int IntKind.i64 0, Value.int IntKind.i64 0]))
                                    (Operand.tmp 18) (Operand.tmp 20)))
                              (DT.alt
                                (false,
                                  SOper.mk (some 25) none
                                    (SOp.append 221 223 3 24
                                      (Value.agg
                                        (Array.mk
                                          [Value.int IntKind.i64 0, Value.int IntKind.i64 0, Value.int IntKind.i64 0]))
                                      (Operand.tmp 22) (Operand.tmp 24)))
                                (DT.alt (false, SOper.mk none none (SOp.store 1 (Operand.tmp 3) (Operand.tmp 21)))
                                  (DT.alt (false, SOper.mk none none (SOp.store 1 (Operand.tmp 4) (Operand.tmp 25)))
                                    DT.fin DT.no)
                                  DT.no)
                                DT.no)
                              DT.no)
                            DT.no))
                        (DT.alt (false, SOper.mk (some 22) none (SOp.load false 1 (Operand.tmp 4)))
                          (DT.alt
                            (false,
                              SOper.mk (some 20) none
                                (SOp.buildS 223 1
                                  [Value.int IntKind.i64 0, Value.int IntKind.i64 0, Value.int IntKind.i64 0]
                                  [(0, 3, Operand.tmp 19)]))
                            (DT.alt
                              (false,
                                SOper.mk (some 21) none
                                  (SOp.append 221 223 3 24
                                    (Value.agg
                                      (Array.mk
                                        [Value.int IntKind.i64 0, Value.int IntKind.i64 0, Value.int IntKind.i64 0]))
                                    (Operand.tmp 18) (Operand.tmp 20)))
                              (DT.alt
                                (false,
                                  SOper.mk (some 25) none
                                    (SOp.append 221 223 3 24
                                      (Value.agg
                                        (Array.mk
                                          [Value.int IntKind.i64 0, Value.int IntKind.i64 0, Value.int IntKind.i64 0]))
                                      (Operand.tmp 22) (Operand.tmp 24)))
                                (DT.alt (false, SOper.mk none none (SOp.store 1 (Operand.tmp 3) (Operand.tmp 21)))
                                  (DT.alt (false, SOper.mk none none (SOp.store 1 (Operand.tmp 4) (Operand.tmp 25)))
                                    DT.fin DT.no)
                                  DT.no)
                                DT.no)
                              DT.no)
                            DT.no)
                          DT.no))
                      DT.no))))))
          []))
      Stmt.skip))
def S173 : FnS := ⟨26, [], S173_0⟩
theorem tr173 : trFn Try.prog 173 [5] [[1, 2, 3, 4, 5], [2, 3, 4, 5, 15], [3, 4, 5], [], [], [2, 0, 2, 1, 2, 5, 3, 2, 3, 3, 3, 4, 3, 6, 3, 7, 3, 8, 3, 9, 0, 1, 1, 1, 1, 3, 6, 3, 4, 3, 7, 3, 8, 3, 9, 0, 1, 1, 1, 1, 1, 3, 4, 3, 3, 3, 6, 3, 7, 3, 8, 3, 9, 0, 1, 1, 1, 1, 3, 6, 3, 3, 3, 7, 3, 8, 3, 9, 0, 1, 1, 1, 1, 1, 3, 6, 3, 3, 3, 4, 3, 7, 3, 8, 3, 9, 0, 1, 1, 1, 1, 3, 4, 3, 3, 3, 7, 3, 8, 3, 9, 0, 1, 1, 1, 1, 1, 1, 3, 4, 3, 2, 3, 3, 3, 6, 3, 7, 3, 8, 3, 9, 0, 1, 1, 1, 1, 3, 6, 3, 3, 3, 7, 3, 8, 3, 9, 0, 1, 1, 1, 1, 1, 3, 6, 3, 2, 3, 3, 3, 7, 3, 8, 3, 9, 0, 1, 1, 1, 1, 1, 1, 3, 6, 3, 2, 3, 3, 3, 4, 3, 7, 3, 8, 3, 9, 0, 1, 1, 1, 1, 3, 4, 3, 3, 3, 7, 3, 8, 3, 9, 0, 1, 1, 1, 1, 1, 3, 4, 3, 2, 3, 3, 3, 7, 3, 8, 3, 9, 0, 1, 1, 1, 1, 1, 1, 1], [5], [], [], [1], [0, 1, 2], [], [], [5], [0, 1, 2, 3, 4, 5, 6], [0, 1, 2, 3, 4, 5, 6, 7], [0, 1, 2, 3, 4, 5, 6, 7, 8]] = some S173 := by kernel_rfl
end Go.Proofs.Ytniobbepliknmaa.V
