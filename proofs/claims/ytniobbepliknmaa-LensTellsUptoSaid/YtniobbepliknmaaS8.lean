/- The text of parlance/parllaw5.LensTells as a statement (slots: 0 g, 1 n, 2 g, 3 n, 5 l, 6 e, 7 l, 8 e, 9 f); no condition. -/
import Derived.Test.YtniobbepliknmaaVh
import Derived.Test.YtniobbepliknmaaProg
namespace Go.Proofs.Ytniobbepliknmaa.V
open Go
def S8_1 : Stmt :=
  Stmt.seq
  (Stmt.region
    [SOper.mk (some 31) none (SOp.mv (Operand.tmp 9)),
      SOper.mk (some 32) none (SOp.ibin BinOp.eql (Operand.tmp 31) (Operand.const (Value.int IntKind.i64 0))),
      SOper.mk (some 33) none (SOp.mv (Operand.tmp 32)), SOper.mk (some 34) (some (33, true)) (SOp.mv (Operand.tmp 1)),
      SOper.mk (some 35) (some (33, true))
        (SOp.ibin BinOp.lss (Operand.tmp 34) (Operand.const (Value.int IntKind.i64 0))),
      SOper.mk (some 36) (some (33, true)) (SOp.mv (Operand.tmp 35)),
      SOper.mk (some 37) (some (36, false)) (SOp.mv (Operand.tmp 1)),
      SOper.mk (some 38) (some (36, false))
        (SOp.ibin BinOp.gtr (Operand.tmp 37) (Operand.const (Value.int IntKind.i64 200))),
      SOper.mk (some 39) (some (33, true))
        (SOp.pick (Operand.tmp 36) (Operand.const (Value.bool true)) (Operand.tmp 38)),
      SOper.mk (some 40) none (SOp.pick (Operand.tmp 33) (Operand.tmp 39) (Operand.const (Value.bool false)))]
    [1, 2, 7, 8, 9, 40])
  (Stmt.cond (Operand.tmp 40)
    (Stmt.region [SOper.mk (some 9) none (SOp.mv (Operand.const (Value.int IntKind.i64 1)))] [1, 2, 7, 8, 9]) Stmt.skip)
def S8_2 : Stmt :=
  Stmt.seq
  (Stmt.seq
    (Stmt.region
      [SOper.mk (some 41) none (SOp.mv (Operand.tmp 9)),
        SOper.mk (some 42) none (SOp.ibin BinOp.neq (Operand.tmp 41) (Operand.const (Value.int IntKind.i64 0)))]
      [1, 2, 7, 8, 9, 42])
    (Stmt.cond (Operand.tmp 42)
      (Stmt.seq
        (Stmt.region
          [SOper.mk (some 43) none (SOp.mv (Operand.tmp 8)), SOper.mk (some 44) none (SOp.mv (Operand.tmp 9)),
            SOper.mk (some 45) none (SOp.ibin BinOp.eql (Operand.tmp 43) (Operand.tmp 44)),
            SOper.mk (some 46) none (SOp.mv (Operand.tmp 45)),
            SOper.mk (some 47) (some (46, true)) (SOp.mv (Operand.tmp 7)),
            SOper.mk (some 48) (some (46, true)) (SOp.len false (Operand.tmp 47)),
            SOper.mk (some 49) (some (46, true))
              (SOp.ibin BinOp.eql (Operand.tmp 48) (Operand.const (Value.int IntKind.i64 0))),
            SOper.mk (some 50) none (SOp.pick (Operand.tmp 46) (Operand.tmp 49) (Operand.const (Value.bool false))),
            SOper.mk (some 4) none (SOp.mv (Operand.tmp 50))]
          [4])
        Stmt.ret)
      Stmt.skip))
  (Stmt.seq
    (Stmt.region
      [SOper.mk (some 51) none (SOp.mv (Operand.tmp 8)),
        SOper.mk (some 52) none (SOp.ibin BinOp.eql (Operand.tmp 51) (Operand.const (Value.int IntKind.i64 0))),
        SOper.mk (some 53) none (SOp.mv (Operand.tmp 52)),
        SOper.mk (some 54) (some (53, true)) (SOp.mv (Operand.tmp 7)),
        SOper.mk (some 55) (some (53, true)) (SOp.load true 4 (Operand.tmp 2)),
        SOper.mk (some 56) (some (53, true)) (SOp.mv (Operand.tmp 1)),
        SOper.mk (some 57) (some (53, true)) (SOp.call (Operand.func 43) [Operand.tmp 55, Operand.tmp 56]),
        SOper.mk (some 58) (some (53, true)) (SOp.call (Operand.func 41) [Operand.tmp 54, Operand.tmp 57]),
        SOper.mk (some 59) none (SOp.pick (Operand.tmp 53) (Operand.tmp 58) (Operand.const (Value.bool false))),
        SOper.mk (some 4) none (SOp.mv (Operand.tmp 59))]
      [4])
    Stmt.ret)
def S8_0 : Stmt :=
  Stmt.seq
  (Stmt.region
    [SOper.mk (some 2) none (SOp.box true 57 (Operand.tmp 0)),
      SOper.mk (some 4) none (SOp.mv (Operand.const (Value.bool false)))]
    [1, 2])
  (Stmt.seq
    (Stmt.seq
      (Stmt.region
        [SOper.mk (some 11) none (SOp.call (Operand.func 40) []),
          SOper.mk (some 12) none
            (SOp.call (Operand.func 39) [Operand.tmp 11, Operand.const (Value.int IntKind.i64 1)]),
          SOper.mk (some 10) none (SOp.mv (Operand.tmp 12)), SOper.mk (some 13) none (SOp.extract 0 (Operand.tmp 10)),
          SOper.mk (some 14) none (SOp.extract 1 (Operand.tmp 10)), SOper.mk (some 5) none (SOp.mv (Operand.tmp 13)),
          SOper.mk (some 6) none (SOp.mv (Operand.tmp 14))]
        [1, 2, 5, 6])
      (Stmt.seq
        (Stmt.region
          [SOper.mk (some 15) none (SOp.mv (Operand.tmp 6)),
            SOper.mk (some 16) none (SOp.ibin BinOp.neq (Operand.tmp 15) (Operand.const (Value.int IntKind.i64 0))),
            SOper.mk (some 17) none (SOp.mv (Operand.tmp 16)),
            SOper.mk (some 18) (some (17, false)) (SOp.mv (Operand.tmp 5)),
            SOper.mk (some 19) (some (17, false))
              (SOp.buildS 4 2 [Value.bool false, Value.bool false]
                [(0, 1, Operand.const (Value.bool false)), (1, 1, Operand.const (Value.bool true))]),
            SOper.mk (some 20) (some (17, false)) (SOp.call (Operand.func 41) [Operand.tmp 18, Operand.tmp 19]),
            SOper.mk (some 21) (some (17, false)) (SOp.un UnOp.not (Operand.tmp 20)),
            SOper.mk (some 22) none (SOp.pick (Operand.tmp 17) (Operand.const (Value.bool true)) (Operand.tmp 21))]
          [1, 2, 22])
        (Stmt.cond (Operand.tmp 22)
          (Stmt.seq (Stmt.region [SOper.mk (some 4) none (SOp.mv (Operand.const (Value.bool false)))] [4]) Stmt.ret)
          Stmt.skip)))
    (Stmt.seq
      (Stmt.region
        [SOper.mk (some 24) none (SOp.load true 4 (Operand.tmp 2)), SOper.mk (some 25) none (SOp.mv (Operand.tmp 1)),
          SOper.mk (some 26) none (SOp.call (Operand.func 39) [Operand.tmp 24, Operand.tmp 25]),
          SOper.mk (some 23) none (SOp.mv (Operand.tmp 26)), SOper.mk (some 27) none (SOp.extract 0 (Operand.tmp 23)),
          SOper.mk (some 28) none (SOp.extract 1 (Operand.tmp 23)), SOper.mk (some 7) none (SOp.mv (Operand.tmp 27)),
          SOper.mk (some 8) none (SOp.mv (Operand.tmp 28))]
        [1, 2, 7, 8])
      (Stmt.seq
        (Stmt.region
          [SOper.mk (some 29) none (SOp.load true 4 (Operand.tmp 2)),
            SOper.mk (some 30) none (SOp.call (Operand.func 42) [Operand.tmp 29]),
            SOper.mk (some 9) none (SOp.mv (Operand.tmp 30))]
          [1, 2, 7, 8, 9])
        (Stmt.join S8_1 S8_2 [9] [1, 2, 7, 8]))))
def S8 : FnS := ⟨60, [(4, none)], S8_0⟩
theorem tr8 : trFn Try.prog 8 [2] [[1, 2], [1, 2, 5, 6], [1, 2, 22], [4], [1, 2, 7, 8], [1, 2, 7, 8, 9], [9], [1, 2, 7, 8], [1, 2, 7, 8, 9, 40], [1, 2, 7, 8, 9], [1, 2, 7, 8, 9, 42], [4], [4]] = some S8 := by kernel_rfl
end Go.Proofs.Ytniobbepliknmaa.V
