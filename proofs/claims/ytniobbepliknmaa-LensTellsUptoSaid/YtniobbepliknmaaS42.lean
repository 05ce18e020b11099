/- The text of parlance/parlref5.RuleFault as a statement (slots: 0 g, 1 g, 3 seen, 4 _, 5 r, 6 key, 7 _, 8 s, 9 most); no condition. -/
import Derived.Test.YtniobbepliknmaaVh
import Derived.Test.YtniobbepliknmaaProg
namespace Go.Proofs.Ytniobbepliknmaa.V
open Go
def S42_1 : Stmt :=
  Stmt.seq
  (Stmt.region
    [SOper.mk (some 79) none (SOp.fld 0 (Operand.tmp 8)), SOper.mk (some 80) none (SOp.load false 1 (Operand.tmp 79))]
    [1, 3, 6, 8, 9, 46, 47, 48, 71, 72, 73, 80])
  (Stmt.cond (Operand.tmp 80)
    (Stmt.seq
      (Stmt.region
        [SOper.mk (some 81) none (SOp.fld 0 (Operand.tmp 1)),
          SOper.mk (some 82) none (SOp.load false 1 (Operand.tmp 81)), SOper.mk (some 9) none (SOp.mv (Operand.tmp 82))]
        [1, 3, 6, 8, 9, 46, 47, 48, 71, 72, 73])
      (Stmt.region
        [SOper.mk (some 83) none (SOp.mv (Operand.tmp 6)),
          SOper.mk (some 84) none
            (SOp.fn Fk.cat [Operand.tmp 83, Operand.const (Value.string (ByteArray.mk (Array.mk [UInt8.ofNat 116])))]),
          SOper.mk (some 6) none (SOp.mv (Operand.tmp 84))]
        [1, 3, 6, 8, 9, 46, 47, 48, 71, 72, 73]))
    (Stmt.region
      [SOper.mk (some 85) none (SOp.mv (Operand.tmp 6)),
        SOper.mk (some 86) none
          (SOp.fn Fk.cat [Operand.tmp 85, Operand.const (Value.string (ByteArray.mk (Array.mk [UInt8.ofNat 110])))]),
        SOper.mk (some 6) none (SOp.mv (Operand.tmp 86))]
      [1, 3, 6, 8, 9, 46, 47, 48, 71, 72, 73]))
def S42_2 : Stmt :=
  Stmt.seq
  (Stmt.seq
    (Stmt.region
      [SOper.mk (some 87) none (SOp.fld 1 (Operand.tmp 8)), SOper.mk (some 88) none (SOp.load false 1 (Operand.tmp 87)),
        SOper.mk (some 89) none (SOp.ibin BinOp.lss (Operand.tmp 88) (Operand.const (Value.int IntKind.i64 0))),
        SOper.mk (some 90) none (SOp.mv (Operand.tmp 89)),
        SOper.mk (some 91) (some (90, false)) (SOp.fld 1 (Operand.tmp 8)),
        SOper.mk (some 92) (some (90, false)) (SOp.load false 1 (Operand.tmp 91)),
        SOper.mk (some 93) (some (90, false)) (SOp.mv (Operand.tmp 9)),
        SOper.mk (some 94) (some (90, false)) (SOp.ibin BinOp.geq (Operand.tmp 92) (Operand.tmp 93)),
        SOper.mk (some 95) none (SOp.pick (Operand.tmp 90) (Operand.const (Value.bool true)) (Operand.tmp 94))]
      [1, 3, 6, 8, 46, 47, 48, 71, 72, 73, 95])
    (Stmt.cond (Operand.tmp 95)
      (Stmt.seq (Stmt.region [SOper.mk (some 2) none (SOp.mv (Operand.const (Value.int IntKind.i64 3)))] [2]) Stmt.ret)
      Stmt.skip))
  (Stmt.region
    [SOper.mk (some 96) none (SOp.mv (Operand.tmp 6)), SOper.mk (some 97) none (SOp.fld 1 (Operand.tmp 8)),
      SOper.mk (some 98) none (SOp.load false 1 (Operand.tmp 97)),
      SOper.mk (some 99) none (SOp.conv IntKind.i32 (Operand.tmp 98)),
      SOper.mk (some 100) none (SOp.fn Fk.rune [Operand.tmp 99]),
      SOper.mk (some 101) none (SOp.fn Fk.cat [Operand.tmp 96, Operand.tmp 100]),
      SOper.mk (some 6) none (SOp.mv (Operand.tmp 101))]
    [1, 3, 6, 46, 47, 48, 71, 72, 73])
def S42_3 : Stmt :=
  Stmt.block 3
  (Stmt.seq
    (Stmt.region
      [SOper.mk (some 75) none (SOp.idx 2 (Operand.tmp 71) (Operand.tmp 73)),
        SOper.mk (some 76) none (SOp.load true 2 (Operand.tmp 75)),
        SOper.mk (some 8) none (SOp.alloc true 39 (Value.agg (Array.mk [Value.bool false, Value.int IntKind.i64 0]))),
        SOper.mk none none (SOp.store 2 (Operand.tmp 8) (Operand.tmp 76))]
      [1, 3, 6, 8, 46, 47, 48, 71, 72, 73])
    (Stmt.seq
      (Stmt.region
        [SOper.mk (some 77) none (SOp.fld 1 (Operand.tmp 1)),
          SOper.mk (some 78) none (SOp.load false 1 (Operand.tmp 77)), SOper.mk (some 9) none (SOp.mv (Operand.tmp 78))]
        [1, 3, 6, 8, 9, 46, 47, 48, 71, 72, 73])
      (Stmt.join S42_1 S42_2 [6, 9] [1, 3, 8, 46, 47, 48, 71, 72, 73])))
def S42_4 : Stmt :=
  Stmt.region
  [SOper.mk (some 102) none (SOp.ibin BinOp.add (Operand.tmp 73) (Operand.const (Value.int IntKind.i64 1))),
    SOper.mk (some 73) none (SOp.mv (Operand.tmp 102))]
  [1, 3, 6, 46, 47, 48, 71, 72, 73]
def S42_5 : Stmt :=
  Stmt.seq
  (Stmt.region [SOper.mk (some 74) none (SOp.ibin BinOp.lss (Operand.tmp 73) (Operand.tmp 72))]
    [1, 3, 6, 46, 47, 48, 71, 72, 73, 74])
  (Stmt.seq (Stmt.cond (Operand.tmp 74) Stmt.skip (Stmt.exit 2))
    (Stmt.join S42_3 S42_4 [6] [1, 3, 46, 47, 48, 71, 72, 73]))
def S42_6 : Stmt :=
  Stmt.seq
  (Stmt.region [SOper.mk (some 49) none (SOp.ibin BinOp.lss (Operand.tmp 48) (Operand.tmp 47))] [1, 3, 46, 47, 48, 49])
  (Stmt.seq (Stmt.cond (Operand.tmp 49) Stmt.skip (Stmt.exit 0))
    (Stmt.seq
      (Stmt.block 1
        (Stmt.seq
          (Stmt.region
            [SOper.mk (some 50) none (SOp.idx 2 (Operand.tmp 46) (Operand.tmp 48)),
              SOper.mk (some 51) none (SOp.load true 2 (Operand.tmp 50)),
              SOper.mk (some 5) none
                (SOp.alloc true 37 (Value.agg (Array.mk [Value.int IntKind.i64 0, Value.slice none 0 0]))),
              SOper.mk none none (SOp.store 2 (Operand.tmp 5) (Operand.tmp 51))]
            [1, 3, 5, 46, 47, 48])
          (Stmt.seq
            (Stmt.seq
              (Stmt.region
                [SOper.mk (some 52) none (SOp.fld 0 (Operand.tmp 5)),
                  SOper.mk (some 53) none (SOp.load false 1 (Operand.tmp 52)),
                  SOper.mk (some 54) none
                    (SOp.ibin BinOp.lss (Operand.tmp 53) (Operand.const (Value.int IntKind.i64 0))),
                  SOper.mk (some 55) none (SOp.mv (Operand.tmp 54)),
                  SOper.mk (some 56) (some (55, false)) (SOp.fld 0 (Operand.tmp 5)),
                  SOper.mk (some 57) (some (55, false)) (SOp.load false 1 (Operand.tmp 56)),
                  SOper.mk (some 58) (some (55, false)) (SOp.fld 1 (Operand.tmp 1)),
                  SOper.mk (some 59) (some (55, false)) (SOp.load false 1 (Operand.tmp 58)),
                  SOper.mk (some 60) (some (55, false)) (SOp.ibin BinOp.geq (Operand.tmp 57) (Operand.tmp 59)),
                  SOper.mk (some 61) none
                    (SOp.pick (Operand.tmp 55) (Operand.const (Value.bool true)) (Operand.tmp 60))]
                [1, 3, 5, 46, 47, 48, 61])
              (Stmt.cond (Operand.tmp 61)
                (Stmt.seq (Stmt.region [SOper.mk (some 2) none (SOp.mv (Operand.const (Value.int IntKind.i64 3)))] [2])
                  Stmt.ret)
                Stmt.skip))
            (Stmt.seq
              (Stmt.seq
                (Stmt.region
                  [SOper.mk (some 62) none (SOp.fld 1 (Operand.tmp 5)),
                    SOper.mk (some 63) none (SOp.load false 1 (Operand.tmp 62)),
                    SOper.mk (some 64) none (SOp.len false (Operand.tmp 63)),
                    SOper.mk (some 65) none
                      (SOp.ibin BinOp.gtr (Operand.tmp 64) (Operand.const (Value.int IntKind.i64 4)))]
                  [1, 3, 5, 46, 47, 48, 65])
                (Stmt.cond (Operand.tmp 65)
                  (Stmt.seq
                    (Stmt.region [SOper.mk (some 2) none (SOp.mv (Operand.const (Value.int IntKind.i64 2)))] [2])
                    Stmt.ret)
                  Stmt.skip))
              (Stmt.seq
                (Stmt.region
                  [SOper.mk (some 66) none (SOp.fld 0 (Operand.tmp 5)),
                    SOper.mk (some 67) none (SOp.load false 1 (Operand.tmp 66)),
                    SOper.mk (some 68) none (SOp.conv IntKind.i32 (Operand.tmp 67)),
                    SOper.mk (some 69) none (SOp.fn Fk.rune [Operand.tmp 68]),
                    SOper.mk (some 6) none (SOp.mv (Operand.tmp 69))]
                  [1, 3, 5, 6, 46, 47, 48])
                (Stmt.seq
                  (Stmt.seq
                    (Stmt.region
                      [SOper.mk (some 70) none (SOp.fld 1 (Operand.tmp 5)),
                        SOper.mk (some 71) none (SOp.load false 1 (Operand.tmp 70)),
                        SOper.mk (some 72) none (SOp.len false (Operand.tmp 71)),
                        SOper.mk (some 73) none (SOp.mv (Operand.const (Value.int IntKind.i64 0)))]
                      [1, 3, 6, 46, 47, 48, 71, 72, 73])
                    (Stmt.block 2 (Stmt.loop S42_5 [6, 73] [1, 3, 46, 47, 48, 71, 72])))
                  (Stmt.seq
                    (Stmt.seq
                      (Stmt.region
                        [SOper.mk (some 103) none (SOp.mv (Operand.tmp 3)),
                          SOper.mk (some 104) none (SOp.mv (Operand.tmp 6)),
                          SOper.mk (some 105) none (SOp.q (Qk.look 118 false) [Operand.tmp 103, Operand.tmp 104])]
                        [1, 3, 6, 46, 47, 48, 105])
                      (Stmt.cond (Operand.tmp 105)
                        (Stmt.seq
                          (Stmt.region [SOper.mk (some 2) none (SOp.mv (Operand.const (Value.int IntKind.i64 6)))] [2])
                          Stmt.ret)
                        Stmt.skip))
                    (Stmt.region
                      [SOper.mk (some 106) none (SOp.mv (Operand.tmp 3)),
                        SOper.mk (some 107) none (SOp.mv (Operand.tmp 6)),
                        SOper.mk none none
                          (SOp.a (Qk.upd 118) [Operand.tmp 106, Operand.tmp 107, Operand.const (Value.bool true)])]
                      [1, 3, 46, 47, 48]))))))))
      (Stmt.region
        [SOper.mk (some 108) none (SOp.ibin BinOp.add (Operand.tmp 48) (Operand.const (Value.int IntKind.i64 1))),
          SOper.mk (some 48) none (SOp.mv (Operand.tmp 108))]
        [1, 3, 46, 47, 48])))
def S42_0 : Stmt :=
  Stmt.seq
  (Stmt.region
    [SOper.mk (some 1) none (SOp.box true 57 (Operand.tmp 0)),
      SOper.mk (some 2) none (SOp.mv (Operand.const (Value.int IntKind.i64 0)))]
    [1])
  (Stmt.seq
    (Stmt.seq
      (Stmt.region
        [SOper.mk (some 10) none (SOp.fld 0 (Operand.tmp 1)),
          SOper.mk (some 11) none (SOp.load false 1 (Operand.tmp 10)),
          SOper.mk (some 12) none (SOp.ibin BinOp.lss (Operand.tmp 11) (Operand.const (Value.int IntKind.i64 1))),
          SOper.mk (some 13) none (SOp.mv (Operand.tmp 12)),
          SOper.mk (some 14) (some (13, false)) (SOp.fld 0 (Operand.tmp 1)),
          SOper.mk (some 15) (some (13, false)) (SOp.load false 1 (Operand.tmp 14)),
          SOper.mk (some 16) (some (13, false))
            (SOp.ibin BinOp.gtr (Operand.tmp 15) (Operand.const (Value.int IntKind.i64 8))),
          SOper.mk (some 17) none (SOp.pick (Operand.tmp 13) (Operand.const (Value.bool true)) (Operand.tmp 16)),
          SOper.mk (some 18) none (SOp.mv (Operand.tmp 17)),
          SOper.mk (some 19) (some (18, false)) (SOp.fld 1 (Operand.tmp 1)),
          SOper.mk (some 20) (some (18, false)) (SOp.load false 1 (Operand.tmp 19)),
          SOper.mk (some 21) (some (18, false))
            (SOp.ibin BinOp.lss (Operand.tmp 20) (Operand.const (Value.int IntKind.i64 1))),
          SOper.mk (some 22) none (SOp.pick (Operand.tmp 18) (Operand.const (Value.bool true)) (Operand.tmp 21)),
          SOper.mk (some 23) none (SOp.mv (Operand.tmp 22)),
          SOper.mk (some 24) (some (23, false)) (SOp.fld 1 (Operand.tmp 1)),
          SOper.mk (some 25) (some (23, false)) (SOp.load false 1 (Operand.tmp 24)),
          SOper.mk (some 26) (some (23, false))
            (SOp.ibin BinOp.gtr (Operand.tmp 25) (Operand.const (Value.int IntKind.i64 10))),
          SOper.mk (some 27) none (SOp.pick (Operand.tmp 23) (Operand.const (Value.bool true)) (Operand.tmp 26)),
          SOper.mk (some 28) none (SOp.mv (Operand.tmp 27)),
          SOper.mk (some 29) (some (28, false)) (SOp.fld 2 (Operand.tmp 1)),
          SOper.mk (some 30) (some (28, false)) (SOp.load false 1 (Operand.tmp 29)),
          SOper.mk (some 31) (some (28, false))
            (SOp.ibin BinOp.lss (Operand.tmp 30) (Operand.const (Value.int IntKind.i64 0))),
          SOper.mk (some 32) none (SOp.pick (Operand.tmp 28) (Operand.const (Value.bool true)) (Operand.tmp 31)),
          SOper.mk (some 33) none (SOp.mv (Operand.tmp 32)),
          SOper.mk (some 34) (some (33, false)) (SOp.fld 2 (Operand.tmp 1)),
          SOper.mk (some 35) (some (33, false)) (SOp.load false 1 (Operand.tmp 34)),
          SOper.mk (some 36) (some (33, false)) (SOp.fld 1 (Operand.tmp 1)),
          SOper.mk (some 37) (some (33, false)) (SOp.load false 1 (Operand.tmp 36)),
          SOper.mk (some 38) (some (33, false)) (SOp.ibin BinOp.geq (Operand.tmp 35) (Operand.tmp 37)),
          SOper.mk (some 39) none (SOp.pick (Operand.tmp 33) (Operand.const (Value.bool true)) (Operand.tmp 38))]
        [1, 39])
      (Stmt.cond (Operand.tmp 39)
        (Stmt.seq (Stmt.region [SOper.mk (some 2) none (SOp.mv (Operand.const (Value.int IntKind.i64 1)))] [2])
          Stmt.ret)
        Stmt.skip))
    (Stmt.seq
      (Stmt.seq
        (Stmt.region
          [SOper.mk (some 40) none (SOp.fld 3 (Operand.tmp 1)),
            SOper.mk (some 41) none (SOp.load false 1 (Operand.tmp 40)),
            SOper.mk (some 42) none (SOp.len false (Operand.tmp 41)),
            SOper.mk (some 43) none (SOp.ibin BinOp.gtr (Operand.tmp 42) (Operand.const (Value.int IntKind.i64 32)))]
          [1, 43])
        (Stmt.cond (Operand.tmp 43)
          (Stmt.seq (Stmt.region [SOper.mk (some 2) none (SOp.mv (Operand.const (Value.int IntKind.i64 2)))] [2])
            Stmt.ret)
          Stmt.skip))
      (Stmt.seq
        (Stmt.region
          [SOper.mk (some 44) none (SOp.n (Qk.mkmap 118) []), SOper.mk (some 3) none (SOp.mv (Operand.tmp 44))] [1, 3])
        (Stmt.seq
          (Stmt.seq
            (Stmt.region
              [SOper.mk (some 45) none (SOp.fld 3 (Operand.tmp 1)),
                SOper.mk (some 46) none (SOp.load false 1 (Operand.tmp 45)),
                SOper.mk (some 47) none (SOp.len false (Operand.tmp 46)),
                SOper.mk (some 48) none (SOp.mv (Operand.const (Value.int IntKind.i64 0)))]
              [1, 3, 46, 47, 48])
            (Stmt.block 0 (Stmt.loop S42_6 [48] [1, 3, 46, 47])))
          (Stmt.seq (Stmt.region [SOper.mk (some 2) none (SOp.mv (Operand.const (Value.int IntKind.i64 0)))] [2])
            Stmt.ret)))))
def S42 : FnS := ⟨109, [(2, none)], S42_0⟩
theorem tr42 : trFn Try.prog 42 [1, 5, 8] [[1], [1, 39], [2], [1, 43], [2], [1, 3], [1, 3, 46, 47, 48], [48], [1, 3, 46, 47], [1, 3, 46, 47, 48, 49], [1, 3, 5, 46, 47, 48], [1, 3, 5, 46, 47, 48, 61], [2], [1, 3, 5, 46, 47, 48, 65], [2], [1, 3, 5, 6, 46, 47, 48], [1, 3, 6, 46, 47, 48, 71, 72, 73], [6, 73], [1, 3, 46, 47, 48, 71, 72], [1, 3, 6, 46, 47, 48, 71, 72, 73, 74], [6], [1, 3, 46, 47, 48, 71, 72, 73], [1, 3, 6, 8, 46, 47, 48, 71, 72, 73], [1, 3, 6, 8, 9, 46, 47, 48, 71, 72, 73], [6, 9], [1, 3, 8, 46, 47, 48, 71, 72, 73], [1, 3, 6, 8, 9, 46, 47, 48, 71, 72, 73, 80], [1, 3, 6, 8, 9, 46, 47, 48, 71, 72, 73], [1, 3, 6, 8, 9, 46, 47, 48, 71, 72, 73], [1, 3, 6, 8, 9, 46, 47, 48, 71, 72, 73], [1, 3, 6, 8, 46, 47, 48, 71, 72, 73, 95], [2], [1, 3, 6, 46, 47, 48, 71, 72, 73], [1, 3, 6, 46, 47, 48, 71, 72, 73], [1, 3, 6, 46, 47, 48, 105], [2], [1, 3, 46, 47, 48], [1, 3, 46, 47, 48], [2]] = some S42 := by kernel_rfl
end Go.Proofs.Ytniobbepliknmaa.V
