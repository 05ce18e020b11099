/- Texts put together, in the order in which they build; each says what it proves; no condition. -/
import Derived.Test.YtniobbepliknmaaM2
import Derived.Test.YtniobbepliknmaaProg
import Derived.Test.YtniobbepliknmaaM5
import Derived.Test.YtniobbepliknmaaM4
import Derived.Test.YtniobbepliknmaaM3
/- The text of parlance/parlref5.WordsOf as a statement (slots: 0 g, 1 n, 2 most, 3 g, 4 n, 5 most, 8 out, 9 i, 10 again, 11 _, 12 r, 13 at, 14 _, 15 s, 16 next, 17 x, 18 y, 19 x); no condition. -/
namespace Go.Proofs.Ytniobbepliknmaa.V
open Go
def S134_1 : Stmt :=
  Stmt.seq
  (Stmt.region [SOper.mk (some 26) none (SOp.ibin BinOp.lss (Operand.tmp 25) (Operand.tmp 24))]
    [1, 2, 3, 8, 24, 25, 26])
  (Stmt.seq (Stmt.cond (Operand.tmp 26) Stmt.skip (Stmt.exit 0))
    (Stmt.seq
      (Stmt.block 1
        (Stmt.seq
          (Stmt.region
            [SOper.mk (some 27) none (SOp.mv (Operand.tmp 25)), SOper.mk (some 9) none (SOp.mv (Operand.tmp 27))]
            [1, 2, 3, 8, 9, 24, 25])
          (Stmt.region
            [SOper.mk (some 28) none (SOp.mv (Operand.tmp 8)), SOper.mk (some 29) none (SOp.mv (Operand.tmp 9)),
              SOper.mk (some 30) none (SOp.n (Qk.mkmap 232) []),
              SOper.mk (some 31) none (SOp.idx 1 (Operand.tmp 28) (Operand.tmp 29)),
              SOper.mk none none (SOp.store 1 (Operand.tmp 31) (Operand.tmp 30))]
            [1, 2, 3, 8, 24, 25])))
      (Stmt.region
        [SOper.mk (some 32) none (SOp.ibin BinOp.add (Operand.tmp 25) (Operand.const (Value.int IntKind.i64 1))),
          SOper.mk (some 25) none (SOp.mv (Operand.tmp 32))]
        [1, 2, 3, 8, 24, 25])))
def S134_2 : Stmt :=
  Stmt.seq
  (Stmt.region
    [SOper.mk (some 59) none (SOp.mv (Operand.tmp 17)), SOper.mk (some 60) none (SOp.len true (Operand.tmp 59)),
      SOper.mk (some 61) none (SOp.mv (Operand.tmp 1)),
      SOper.mk (some 62) none (SOp.ibin BinOp.lss (Operand.tmp 60) (Operand.tmp 61))]
    [1, 2, 3, 8, 10, 12, 15, 16, 17, 35, 36, 37, 44, 45, 46, 52, 62])
  (Stmt.cond (Operand.tmp 62)
    (Stmt.region
      [SOper.mk (some 63) none (SOp.mv (Operand.tmp 16)), SOper.mk (some 64) none (SOp.mv (Operand.tmp 17)),
        SOper.mk (some 65) none (SOp.fld 1 (Operand.tmp 15)),
        SOper.mk (some 66) none (SOp.load false 1 (Operand.tmp 65)),
        SOper.mk (some 67) none (SOp.conv IntKind.u8 (Operand.tmp 66)),
        SOper.mk (some 68) none (SOp.buildS 5 1 [Value.int IntKind.u8 0] [(0, 1, Operand.tmp 67)]),
        SOper.mk (some 69) none (SOp.q (Qk.cnv 233 9) [Operand.tmp 68]),
        SOper.mk (some 70) none (SOp.fn Fk.cat [Operand.tmp 64, Operand.tmp 69]),
        SOper.mk none none (SOp.a (Qk.upd 232) [Operand.tmp 63, Operand.tmp 70, Operand.const (Value.bool true)])]
      [1, 2, 3, 8, 10, 12, 15, 16, 35, 36, 37, 44, 45, 46, 52])
    Stmt.skip)
def S134_3 : Stmt :=
  Stmt.exit 9
def S134_4 : Stmt :=
  Stmt.seq
  (Stmt.region
    [SOper.mk (some 77) none (SOp.a (Qk.next false) [Operand.tmp 76]),
      SOper.mk (some 78) none (SOp.extract 0 (Operand.tmp 77))]
    [1, 2, 3, 8, 10, 12, 15, 16, 17, 35, 36, 37, 44, 45, 46, 52, 76, 78])
  (Stmt.seq (Stmt.cond (Operand.tmp 78) Stmt.skip (Stmt.exit 10))
    (Stmt.block 11
      (Stmt.seq
        (Stmt.region
          [SOper.mk (some 79) none (SOp.q Qk.entry [Operand.tmp 76]),
            SOper.mk (some 80) none (SOp.extract 0 (Operand.tmp 79)), SOper.mk (some 18) none (SOp.mv (Operand.tmp 80))]
          [1, 2, 3, 8, 10, 12, 15, 16, 17, 18, 35, 36, 37, 44, 45, 46, 52, 76])
        (Stmt.seq
          (Stmt.region
            [SOper.mk (some 81) none (SOp.mv (Operand.tmp 17)), SOper.mk (some 82) none (SOp.len true (Operand.tmp 81)),
              SOper.mk (some 83) none (SOp.mv (Operand.tmp 18)),
              SOper.mk (some 84) none (SOp.len true (Operand.tmp 83)),
              SOper.mk (some 85) none (SOp.ibin BinOp.add (Operand.tmp 82) (Operand.tmp 84)),
              SOper.mk (some 86) none (SOp.mv (Operand.tmp 1)),
              SOper.mk (some 87) none (SOp.ibin BinOp.leq (Operand.tmp 85) (Operand.tmp 86))]
            [1, 2, 3, 8, 10, 12, 15, 16, 17, 18, 35, 36, 37, 44, 45, 46, 52, 76, 87])
          (Stmt.cond (Operand.tmp 87)
            (Stmt.region
              [SOper.mk (some 88) none (SOp.mv (Operand.tmp 16)), SOper.mk (some 89) none (SOp.mv (Operand.tmp 17)),
                SOper.mk (some 90) none (SOp.mv (Operand.tmp 18)),
                SOper.mk (some 91) none (SOp.fn Fk.cat [Operand.tmp 89, Operand.tmp 90]),
                SOper.mk none none
                  (SOp.a (Qk.upd 232) [Operand.tmp 88, Operand.tmp 91, Operand.const (Value.bool true)])]
              [1, 2, 3, 8, 10, 12, 15, 16, 17, 35, 36, 37, 44, 45, 46, 52, 76])
            Stmt.skip)))))
def S134_5 : Stmt :=
  Stmt.seq
  (Stmt.region
    [SOper.mk (some 53) none (SOp.a (Qk.next false) [Operand.tmp 52]),
      SOper.mk (some 54) none (SOp.extract 0 (Operand.tmp 53))]
    [1, 2, 3, 8, 10, 12, 15, 16, 35, 36, 37, 44, 45, 46, 52, 54])
  (Stmt.seq (Stmt.cond (Operand.tmp 54) Stmt.skip (Stmt.exit 8))
    (Stmt.block 9
      (Stmt.seq
        (Stmt.region
          [SOper.mk (some 55) none (SOp.q Qk.entry [Operand.tmp 52]),
            SOper.mk (some 56) none (SOp.extract 0 (Operand.tmp 55)), SOper.mk (some 17) none (SOp.mv (Operand.tmp 56))]
          [1, 2, 3, 8, 10, 12, 15, 16, 17, 35, 36, 37, 44, 45, 46, 52])
        (Stmt.seq
          (Stmt.seq
            (Stmt.region
              [SOper.mk (some 57) none (SOp.fld 0 (Operand.tmp 15)),
                SOper.mk (some 58) none (SOp.load false 1 (Operand.tmp 57))]
              [1, 2, 3, 8, 10, 12, 15, 16, 17, 35, 36, 37, 44, 45, 46, 52, 58])
            (Stmt.cond (Operand.tmp 58)
              (Stmt.join S134_2 S134_3 [] [1, 2, 3, 8, 10, 12, 15, 16, 35, 36, 37, 44, 45, 46, 52]) Stmt.skip))
          (Stmt.seq
            (Stmt.region
              [SOper.mk (some 71) none (SOp.mv (Operand.tmp 8)), SOper.mk (some 72) none (SOp.fld 1 (Operand.tmp 15)),
                SOper.mk (some 73) none (SOp.load false 1 (Operand.tmp 72)),
                SOper.mk (some 74) none (SOp.idx 1 (Operand.tmp 71) (Operand.tmp 73)),
                SOper.mk (some 75) none (SOp.load false 1 (Operand.tmp 74)),
                SOper.mk (some 76) none (SOp.n (Qk.rng 118) [Operand.tmp 75])]
              [1, 2, 3, 8, 10, 12, 15, 16, 17, 35, 36, 37, 44, 45, 46, 52, 76])
            (Stmt.block 10 (Stmt.loop S134_4 [] [1, 2, 3, 8, 10, 12, 15, 16, 17, 35, 36, 37, 44, 45, 46, 52, 76])))))))
def S134_6 : Stmt :=
  Stmt.seq
  (Stmt.region [SOper.mk (some 47) none (SOp.ibin BinOp.lss (Operand.tmp 46) (Operand.tmp 45))]
    [1, 2, 3, 8, 10, 12, 13, 35, 36, 37, 44, 45, 46, 47])
  (Stmt.seq (Stmt.cond (Operand.tmp 47) Stmt.skip (Stmt.exit 6))
    (Stmt.seq
      (Stmt.block 7
        (Stmt.seq
          (Stmt.region
            [SOper.mk (some 48) none (SOp.idx 2 (Operand.tmp 44) (Operand.tmp 46)),
              SOper.mk (some 49) none (SOp.load true 2 (Operand.tmp 48)),
              SOper.mk (some 15) none
                (SOp.alloc true 39 (Value.agg (Array.mk [Value.bool false, Value.int IntKind.i64 0]))),
              SOper.mk none none (SOp.store 2 (Operand.tmp 15) (Operand.tmp 49))]
            [1, 2, 3, 8, 10, 12, 13, 15, 35, 36, 37, 44, 45, 46])
          (Stmt.seq
            (Stmt.region
              [SOper.mk (some 50) none (SOp.n (Qk.mkmap 232) []), SOper.mk (some 16) none (SOp.mv (Operand.tmp 50))]
              [1, 2, 3, 8, 10, 12, 13, 15, 16, 35, 36, 37, 44, 45, 46])
            (Stmt.seq
              (Stmt.seq
                (Stmt.region
                  [SOper.mk (some 51) none (SOp.mv (Operand.tmp 13)),
                    SOper.mk (some 52) none (SOp.n (Qk.rng 232) [Operand.tmp 51])]
                  [1, 2, 3, 8, 10, 12, 15, 16, 35, 36, 37, 44, 45, 46, 52])
                (Stmt.block 8 (Stmt.loop S134_5 [] [1, 2, 3, 8, 10, 12, 15, 16, 35, 36, 37, 44, 45, 46, 52])))
              (Stmt.region
                [SOper.mk (some 92) none (SOp.mv (Operand.tmp 16)), SOper.mk (some 13) none (SOp.mv (Operand.tmp 92))]
                [1, 2, 3, 8, 10, 12, 13, 35, 36, 37, 44, 45, 46])))))
      (Stmt.region
        [SOper.mk (some 93) none (SOp.ibin BinOp.add (Operand.tmp 46) (Operand.const (Value.int IntKind.i64 1))),
          SOper.mk (some 46) none (SOp.mv (Operand.tmp 93))]
        [1, 2, 3, 8, 10, 12, 13, 35, 36, 37, 44, 45, 46])))
def S134_7 : Stmt :=
  Stmt.seq
  (Stmt.region
    [SOper.mk (some 96) none (SOp.a (Qk.next false) [Operand.tmp 95]),
      SOper.mk (some 97) none (SOp.extract 0 (Operand.tmp 96))]
    [1, 2, 3, 8, 10, 12, 35, 36, 37, 95, 97])
  (Stmt.seq (Stmt.cond (Operand.tmp 97) Stmt.skip (Stmt.exit 12))
    (Stmt.block 13
      (Stmt.seq
        (Stmt.region
          [SOper.mk (some 98) none (SOp.q Qk.entry [Operand.tmp 95]),
            SOper.mk (some 99) none (SOp.extract 0 (Operand.tmp 98)), SOper.mk (some 19) none (SOp.mv (Operand.tmp 99))]
          [1, 2, 3, 8, 10, 12, 19, 35, 36, 37, 95])
        (Stmt.seq
          (Stmt.region
            [SOper.mk (some 100) none (SOp.mv (Operand.tmp 8)), SOper.mk (some 101) none (SOp.fld 0 (Operand.tmp 12)),
              SOper.mk (some 102) none (SOp.load false 1 (Operand.tmp 101)),
              SOper.mk (some 103) none (SOp.idx 1 (Operand.tmp 100) (Operand.tmp 102)),
              SOper.mk (some 104) none (SOp.load false 1 (Operand.tmp 103)),
              SOper.mk (some 105) none (SOp.mv (Operand.tmp 19)),
              SOper.mk (some 106) none (SOp.q (Qk.look 118 false) [Operand.tmp 104, Operand.tmp 105]),
              SOper.mk (some 107) none (SOp.un UnOp.not (Operand.tmp 106))]
            [1, 2, 3, 8, 10, 12, 19, 35, 36, 37, 95, 107])
          (Stmt.cond (Operand.tmp 107)
            (Stmt.region
              [SOper.mk (some 108) none (SOp.mv (Operand.tmp 8)), SOper.mk (some 109) none (SOp.fld 0 (Operand.tmp 12)),
                SOper.mk (some 110) none (SOp.load false 1 (Operand.tmp 109)),
                SOper.mk (some 111) none (SOp.idx 1 (Operand.tmp 108) (Operand.tmp 110)),
                SOper.mk (some 112) none (SOp.load false 1 (Operand.tmp 111)),
                SOper.mk (some 113) none (SOp.mv (Operand.tmp 19)),
                SOper.mk (some 114) none (SOp.a (Qk.ment 118) [Operand.tmp 112, Operand.tmp 113]),
                SOper.mk (some 115) none (SOp.extract 1 (Operand.tmp 114)),
                SOper.mk none none
                  (SOp.a (Qk.estore 118) [Operand.tmp 112, Operand.tmp 115, Operand.const (Value.bool true)]),
                SOper.mk (some 10) none (SOp.mv (Operand.const (Value.bool true)))]
              [1, 2, 3, 8, 10, 12, 35, 36, 37, 95])
            Stmt.skip)))))
def S134_8 : Stmt :=
  Stmt.seq
  (Stmt.region [SOper.mk (some 38) none (SOp.ibin BinOp.lss (Operand.tmp 37) (Operand.tmp 36))]
    [1, 2, 3, 8, 10, 35, 36, 37, 38])
  (Stmt.seq (Stmt.cond (Operand.tmp 38) Stmt.skip (Stmt.exit 4))
    (Stmt.seq
      (Stmt.block 5
        (Stmt.seq
          (Stmt.region
            [SOper.mk (some 39) none (SOp.idx 2 (Operand.tmp 35) (Operand.tmp 37)),
              SOper.mk (some 40) none (SOp.load true 2 (Operand.tmp 39)),
              SOper.mk (some 12) none
                (SOp.alloc true 37 (Value.agg (Array.mk [Value.int IntKind.i64 0, Value.slice none 0 0]))),
              SOper.mk none none (SOp.store 2 (Operand.tmp 12) (Operand.tmp 40))]
            [1, 2, 3, 8, 10, 12, 35, 36, 37])
          (Stmt.seq
            (Stmt.region
              [SOper.mk (some 41) none (SOp.n (Qk.mkmap 232) []),
                SOper.mk none none
                  (SOp.a (Qk.upd 232)
                    [Operand.tmp 41, Operand.const (Value.string (ByteArray.mk (Array.mk []))),
                      Operand.const (Value.bool true)]),
                SOper.mk (some 42) none (SOp.mv (Operand.tmp 41)), SOper.mk (some 13) none (SOp.mv (Operand.tmp 42))]
              [1, 2, 3, 8, 10, 12, 13, 35, 36, 37])
            (Stmt.seq
              (Stmt.seq
                (Stmt.region
                  [SOper.mk (some 43) none (SOp.fld 1 (Operand.tmp 12)),
                    SOper.mk (some 44) none (SOp.load false 1 (Operand.tmp 43)),
                    SOper.mk (some 45) none (SOp.len false (Operand.tmp 44)),
                    SOper.mk (some 46) none (SOp.mv (Operand.const (Value.int IntKind.i64 0)))]
                  [1, 2, 3, 8, 10, 12, 13, 35, 36, 37, 44, 45, 46])
                (Stmt.block 6 (Stmt.loop S134_6 [13, 46] [1, 2, 3, 8, 10, 12, 35, 36, 37, 44, 45])))
              (Stmt.seq
                (Stmt.seq
                  (Stmt.region
                    [SOper.mk (some 94) none (SOp.mv (Operand.tmp 13)),
                      SOper.mk (some 95) none (SOp.n (Qk.rng 232) [Operand.tmp 94])]
                    [1, 2, 3, 8, 10, 12, 35, 36, 37, 95])
                  (Stmt.block 12 (Stmt.loop S134_7 [10] [1, 2, 3, 8, 12, 35, 36, 37, 95])))
                (Stmt.seq
                  (Stmt.region
                    [SOper.mk (some 116) none (SOp.mv (Operand.tmp 8)),
                      SOper.mk (some 117) none (SOp.fld 0 (Operand.tmp 12)),
                      SOper.mk (some 118) none (SOp.load false 1 (Operand.tmp 117)),
                      SOper.mk (some 119) none (SOp.idx 1 (Operand.tmp 116) (Operand.tmp 118)),
                      SOper.mk (some 120) none (SOp.load false 1 (Operand.tmp 119)),
                      SOper.mk (some 121) none (SOp.q (Qk.bi 4 [118]) [Operand.tmp 120]),
                      SOper.mk (some 122) none (SOp.mv (Operand.tmp 2)),
                      SOper.mk (some 123) none (SOp.ibin BinOp.gtr (Operand.tmp 121) (Operand.tmp 122))]
                    [1, 2, 3, 8, 10, 35, 36, 37, 123])
                  (Stmt.cond (Operand.tmp 123)
                    (Stmt.seq
                      (Stmt.region
                        [SOper.mk (some 6) none (SOp.mv (Operand.const (Value.slice none 0 0))),
                          SOper.mk (some 7) none (SOp.mv (Operand.const (Value.bool false)))]
                        [6, 7])
                      Stmt.ret)
                    Stmt.skip)))))))
      (Stmt.region
        [SOper.mk (some 124) none (SOp.ibin BinOp.add (Operand.tmp 37) (Operand.const (Value.int IntKind.i64 1))),
          SOper.mk (some 37) none (SOp.mv (Operand.tmp 124))]
        [1, 2, 3, 8, 10, 35, 36, 37])))
def S134_9 : Stmt :=
  Stmt.seq
  (Stmt.seq (Stmt.region [SOper.mk (some 33) none (SOp.mv (Operand.tmp 10))] [1, 2, 3, 8, 33])
    (Stmt.cond (Operand.tmp 33) Stmt.skip (Stmt.exit 2)))
  (Stmt.block 3
    (Stmt.seq (Stmt.region [SOper.mk (some 10) none (SOp.mv (Operand.const (Value.bool false)))] [1, 2, 3, 8, 10])
      (Stmt.seq
        (Stmt.region
          [SOper.mk (some 34) none (SOp.fld 1 (Operand.tmp 3)),
            SOper.mk (some 35) none (SOp.load false 1 (Operand.tmp 34)),
            SOper.mk (some 36) none (SOp.len false (Operand.tmp 35)),
            SOper.mk (some 37) none (SOp.mv (Operand.const (Value.int IntKind.i64 0)))]
          [1, 2, 3, 8, 10, 35, 36, 37])
        (Stmt.block 4 (Stmt.loop S134_8 [10, 37] [1, 2, 3, 8, 35, 36])))))
def S134_0 : Stmt :=
  Stmt.seq
  (Stmt.region
    [SOper.mk (some 3) none (SOp.box true 177 (Operand.tmp 0)),
      SOper.mk (some 6) none (SOp.mv (Operand.const (Value.slice none 0 0))),
      SOper.mk (some 7) none (SOp.mv (Operand.const (Value.bool false)))]
    [1, 2, 3])
  (Stmt.seq
    (Stmt.region
      [SOper.mk (some 20) none (SOp.fld 0 (Operand.tmp 3)), SOper.mk (some 21) none (SOp.load false 1 (Operand.tmp 20)),
        SOper.mk (some 22) none (SOp.mk 118 1 8 (Value.map none) (Operand.tmp 21) (Operand.tmp 21)),
        SOper.mk (some 8) none (SOp.mv (Operand.tmp 22))]
      [1, 2, 3, 8])
    (Stmt.seq
      (Stmt.seq
        (Stmt.region
          [SOper.mk (some 23) none (SOp.mv (Operand.tmp 8)), SOper.mk (some 24) none (SOp.len false (Operand.tmp 23)),
            SOper.mk (some 25) none (SOp.mv (Operand.const (Value.int IntKind.i64 0)))]
          [1, 2, 3, 8, 24, 25])
        (Stmt.block 0 (Stmt.loop S134_1 [25] [1, 2, 3, 8, 24])))
      (Stmt.seq
        (Stmt.seq (Stmt.region [SOper.mk (some 10) none (SOp.mv (Operand.const (Value.bool true)))] [1, 2, 3, 8, 10])
          (Stmt.block 2 (Stmt.loop S134_9 [10] [1, 2, 3, 8])))
        (Stmt.seq
          (Stmt.region
            [SOper.mk (some 125) none (SOp.mv (Operand.tmp 8)), SOper.mk (some 6) none (SOp.mv (Operand.tmp 125)),
              SOper.mk (some 7) none (SOp.mv (Operand.const (Value.bool true)))]
            [6, 7])
          Stmt.ret))))
def S134 : FnS := ⟨126, [(6, none), (7, none)], S134_0⟩
theorem tr134 : trFn Try.prog 134 [3, 12, 15] [[1, 2, 3], [1, 2, 3, 8], [1, 2, 3, 8, 24, 25], [25], [1, 2, 3, 8, 24], [1, 2, 3, 8, 24, 25, 26], [1, 2, 3, 8, 9, 24, 25], [1, 2, 3, 8, 24, 25], [1, 2, 3, 8, 24, 25], [1, 2, 3, 8, 10], [10], [1, 2, 3, 8], [1, 2, 3, 8, 33], [1, 2, 3, 8, 10], [1, 2, 3, 8, 10, 35, 36, 37], [10, 37], [1, 2, 3, 8, 35, 36], [1, 2, 3, 8, 10, 35, 36, 37, 38], [1, 2, 3, 8, 10, 12, 35, 36, 37], [1, 2, 3, 8, 10, 12, 13, 35, 36, 37], [1, 2, 3, 8, 10, 12, 13, 35, 36, 37, 44, 45, 46], [13, 46], [1, 2, 3, 8, 10, 12, 35, 36, 37, 44, 45], [1, 2, 3, 8, 10, 12, 13, 35, 36, 37, 44, 45, 46, 47], [1, 2, 3, 8, 10, 12, 13, 15, 35, 36, 37, 44, 45, 46], [1, 2, 3, 8, 10, 12, 13, 15, 16, 35, 36, 37, 44, 45, 46], [1, 2, 3, 8, 10, 12, 15, 16, 35, 36, 37, 44, 45, 46, 52], [], [1, 2, 3, 8, 10, 12, 15, 16, 35, 36, 37, 44, 45, 46, 52], [1, 2, 3, 8, 10, 12, 15, 16, 35, 36, 37, 44, 45, 46, 52, 54], [1, 2, 3, 8, 10, 12, 15, 16, 17, 35, 36, 37, 44, 45, 46, 52], [1, 2, 3, 8, 10, 12, 15, 16, 17, 35, 36, 37, 44, 45, 46, 52, 58], [], [1, 2, 3, 8, 10, 12, 15, 16, 35, 36, 37, 44, 45, 46, 52], [1, 2, 3, 8, 10, 12, 15, 16, 17, 35, 36, 37, 44, 45, 46, 52, 62], [1, 2, 3, 8, 10, 12, 15, 16, 35, 36, 37, 44, 45, 46, 52], [1, 2, 3, 8, 10, 12, 15, 16, 17, 35, 36, 37, 44, 45, 46, 52, 76], [], [1, 2, 3, 8, 10, 12, 15, 16, 17, 35, 36, 37, 44, 45, 46, 52, 76], [1, 2, 3, 8, 10, 12, 15, 16, 17, 35, 36, 37, 44, 45, 46, 52, 76, 78], [1, 2, 3, 8, 10, 12, 15, 16, 17, 18, 35, 36, 37, 44, 45, 46, 52, 76], [1, 2, 3, 8, 10, 12, 15, 16, 17, 18, 35, 36, 37, 44, 45, 46, 52, 76, 87], [1, 2, 3, 8, 10, 12, 15, 16, 17, 35, 36, 37, 44, 45, 46, 52, 76], [1, 2, 3, 8, 10, 12, 13, 35, 36, 37, 44, 45, 46], [1, 2, 3, 8, 10, 12, 13, 35, 36, 37, 44, 45, 46], [1, 2, 3, 8, 10, 12, 35, 36, 37, 95], [10], [1, 2, 3, 8, 12, 35, 36, 37, 95], [1, 2, 3, 8, 10, 12, 35, 36, 37, 95, 97], [1, 2, 3, 8, 10, 12, 19, 35, 36, 37, 95], [1, 2, 3, 8, 10, 12, 19, 35, 36, 37, 95, 107], [1, 2, 3, 8, 10, 12, 35, 36, 37, 95], [1, 2, 3, 8, 10, 35, 36, 37, 123], [6, 7], [1, 2, 3, 8, 10, 35, 36, 37], [6, 7]] = some S134 := by kernel_rfl
end Go.Proofs.Ytniobbepliknmaa.V
/- The words of a grammar by sets of texts: parlref5.WordsOf; no condition. -/
namespace Go.Proofs.Ytniobbepliknmaa.V
open Go
set_option linter.unusedVariables false
set_option linter.unusedSimpArgs false
attribute [local go_sem] e_seq e_region e_quiet e_join e_loop e_cond e_block e_exit e_ret e_skip e_fin e_kseq e_snrm e_sret e_sex e_bnrm e_bret e_bex e_rnrm e_rret e_res e_condC e_nil e_g e_mv g_mv e_pick g_pick pickC_eq e_ibin g_ibin ibinC_eq e_sbin g_sbin e_beq g_beq beqC_eq e_nilq g_nilq nilqC_sl nilqC_pt nilqC_mp e_un g_un unC_not unC_neg e_conv g_conv convC_eq e_fld g_fld fldC_ref fldC_ptr e_nilCheck g_nilCheck nilCheckC_ref nilCheckC_ptr nilCheckC_fun e_field g_field fieldC_eq e_len g_len lenC_sl lenC_str e_extract g_extract extractC_eq e_mkFunc e_build g_build e_idiv g_idiv idivC_eq e_ishift g_ishift ishiftC_eq e_idx g_idx e_idxA g_idxA e_load g_load loadC_ref loadC_ptr loadB_eq e_slc g_slc e_box boxC_loc boxC_esc e_alloc allocC_loc allocC_esc e_buildS e_store storeC_ref storeC_ptr storeB_eq e_append e_appz e_mk mkC_eq e_call callC_eq e_fn g_fn fnC_eq fnV_min' fnV_max' fnV_rune' e_q g_q e_a e_n g_call g_box g_alloc g_buildS g_store g_append g_mk g_a g_n g_dead e_dead e_callK e_drawn e_tree e_finJ e_tk e_tfin e_tno e_nbt_q e_nbt_qn e_nbt_a e_nbt_an e_nbt_fin e_early_nil e_early_t e_early_f e_nob_nil e_nob_none e_nob_some isBox_dead isBox_v isBox_ref e_dnil e_dk e_ek e_finB vcOps_vc1 e_dcons e_tq e_ekt e_tearly e_talt e_dearly look_nil look_c proj_nil proj_c looks_nil looks_c zip_nil zip_c val_tmp val_const val_func slv_v slv_box slv_ref slot_tmp slot_const slot_func slotL_v slotL_box slotL_ref put_some put_none updBox_c boxSet_box gd_eq slotVals_nil slotVals_c slotVals_b boxV_box boxOn_box slotsOn_nil slotsOn_c slotsOn_b resV_one resV_two vals_nil vals_c allOn_nil allOn_c partOn_nil partOn_c partVals_nil partVals_c fits_nil fits_c fillL_nil fillL_c mkv_one mkv_agg cellsV_agg cellsV_int cellsV_bool cellsV_slice cellsV_string cellsV_pointer cellsV_func cellsV_nilf cellsV_map one'_nil one'_c oc_int oc_bool oc_slice oc_string oc_pointer oc_func oc_nilf oc_map setC_eq iv_add iv_sub iv_mul iv_eql iv_neq iv_lss iv_leq iv_gtr iv_geq iok_add iok_sub iok_mul iok_eql iok_neq iok_lss iok_leq iok_gtr iok_geq pickV_bool args0_nil args0_c bnd_none bnd_some imp_bt imp_bf imp_ebt imp_ebf imp_eb1 imp_np imp_pp beq_tt beq_tf beq_ft beq_ff cond_or cond_and e_round e_meet Int.le_refl Int.toNat_zero decide_true decide_false Bool.or_false Bool.false_or Bool.true_or Bool.or_true Bool.and_false Bool.false_and Bool.bne_false Bool.bne_true beq_iff_eq Int.cast_ofNat_Int not_false_eq_true not_true_eq_false false_and and_false false_implies true_implies true_and and_true Bool.true_and Bool.and_true Bool.not_true Bool.not_false forall_const implies_true List.take_zero List.drop_zero List.take_succ_cons List.drop_succ_cons List.take_nil List.drop_nil List.length_cons List.length_nil List.nil_append List.append_nil List.cons_append Int.toNat_natCast decide_eq_true_eq decide_eq_false_iff_not cond_true cond_false and_self List.getElem?_cons_zero List.getElem?_cons_succ List.set_cons_zero List.set_cons_succ Option.some.injEq exists_eq_left' Nat.zero_add Nat.add_zero Nat.mul_one imp_self true_or or_true or_false false_or Bool.or_eq_true Bool.or_eq_false_iff Bool.and_eq_true Bool.and_eq_false_iff Bool.not_eq_true' Bool.not_eq_false'

def u8 (x : Int) : UInt8 := UInt8.ofNat x.toNat
def Em (maps : List (List (List UInt8))) (a : Int) (x : List UInt8) : Prop := 0 ≤ a ∧ ∃ l, maps[a.toNat]? = some l ∧ x ∈ l
def tot (maps : List (List (List UInt8))) : Nat := (maps.map List.length).sum
theorem tot_le {maps : List (List (List UInt8))} {m : Nat} (h : ∀ l ∈ maps, l.length ≤ m) : tot maps ≤ maps.length * m := by
  induction maps with
  | nil => simp [tot]
  | cons l maps ih =>
    have h1 := h l (by simp)
    have h2 := ih fun x hx => h x (by simp [hx])
    simp only [tot, List.map_cons, List.sum_cons, List.length_cons, Nat.add_mul, Nat.one_mul] at *
    omega
theorem tot_set : ∀ {maps : List (List (List UInt8))} {i : Nat} (hi : i < maps.length) (l : List (List UInt8)), tot (maps.set i l) + maps[i].length = tot maps + l.length
  | [], i, hi, _ => by simp at hi
  | m :: maps, 0, _, l => by simp [tot]; omega
  | m :: maps, i + 1, hi, l => by
    have := tot_set (maps := maps) (i := i) (by simpa using hi) l
    simp only [tot, List.set_cons_succ, List.map_cons, List.sum_cons, List.getElem_cons_succ] at *
    omega
theorem em_set {maps : List (List (List UInt8))} {i : Nat} (hi : i < maps.length) {l : List (List UInt8)} {a : Int} {x : List UInt8} : Em (maps.set i l) a x ↔ (a = i ∧ x ∈ l) ∨ (a ≠ i ∧ Em maps a x) := by
  unfold Em
  constructor
  · rintro ⟨h0, l', h1, h2⟩
    by_cases e : a = i
    · left
      have : a.toNat = i := by omega
      rw [this, List.getElem?_set_self hi] at h1
      cases h1
      exact ⟨e, h2⟩
    · right
      rw [List.getElem?_set_ne (by omega)] at h1
      exact ⟨e, h0, l', h1, h2⟩
  · rintro (⟨rfl, h⟩ | ⟨e, h0, l', h1, h2⟩)
    · exact ⟨by omega, l, by simp [hi], h⟩
    · exact ⟨h0, l', by rw [List.getElem?_set_ne (by omega)]; exact h1, h2⟩
theorem em_at {maps : List (List (List UInt8))} {i : Nat} (hi : i < maps.length) {x : List UInt8} : Em maps i x ↔ x ∈ maps[i] := by
  unfold Em
  simp [List.getElem?_eq_getElem hi]
theorem em_none {N : Nat} {a : Int} {x : List UInt8} : ¬ Em (List.replicate N []) a x := by
  rintro ⟨_, l, h1, h2⟩
  rw [List.getElem?_replicate] at h1
  split at h1
  · cases h1; simp at h2
  · cases h1
theorem em_at' {maps : List (List (List UInt8))} {a : Int} (h0 : 0 ≤ a) (hi : a.toNat < maps.length) {x : List UInt8} : Em maps a x ↔ x ∈ maps[a.toNat] := by
  unfold Em
  simp [List.getElem?_eq_getElem hi, h0]
structure RsOk (rs : List Ru) (N : Nat) : Prop where
  len : rs.length ≤ 100000
  left : ∀ r ∈ rs, 0 ≤ r.l ∧ r.l < N
  right : ∀ r ∈ rs, r.r.length ≤ 1000
  sym : ∀ r ∈ rs, ∀ s ∈ r.r, 0 ≤ s.n ∧ (s.t = true → s.n < 256) ∧ (s.t = false → s.n < N)
def WClosed (E : Int → List UInt8 → Prop) (n : Nat) (rs : List Ru) : Prop := ∀ r ∈ rs, ∀ x, Cmb u8 E r.r x → x.length ≤ n → E r.l x
/-- what the words of all nonterminals are -/
def WordsS (rs : List Ru) (N n : Nat) (maps : List (List (List UInt8))) : Prop := maps.length = N ∧ ∀ (a : Nat) x, a < N → (Em maps a x ↔ DerN u8 rs a x ∧ x.length ≤ n)
def ManyW (rs : List Ru) (n most : Nat) : Prop := ∃ a l, List.Nodup l ∧ most < l.length ∧ ∀ x ∈ l, DerN u8 rs a x ∧ x.length ≤ n
/-- every word of next is an old one with a word of y behind it -/
def NxOk (maps : List (List (List UInt8))) (y : Sy) (n : Nat) (la ln : List (List UInt8)) : Prop := ∀ x ∈ ln, ∃ u v, u ∈ la ∧ x = u ++ v ∧ SyC u8 (Em maps) y v ∧ x.length ≤ n
def XI (maps : List (List (List UInt8))) (y : Sy) (n : Nat) (la : List (List UInt8)) (it ba bn : Nat) (ga g : PH) (f : Nat) (vs : List Sl) (Γ : Ctx) : Prop :=
  vs = [] ∧ ∃ (gi gn : PH) (left : List (List UInt8 × Bool)) (ln : List (List UInt8)), Γ = [gi, gn, ga, g] ∧ f = left.length + 1 ∧ ItM (lk [ga]) gi it ba strB Value.bool left ∧ (∀ p ∈ left, p.1 ∈ la ∧ p.2 = true) ∧ StrM gn bn ln ∧
    NxOk maps y n la ln ∧ (∀ u ∈ la, (u, true) ∉ left → ∀ v, SyC u8 (Em maps) y v → (u ++ v).length ≤ n → u ++ v ∈ ln)
def YI (maps : List (List (List UInt8))) (y : Sy) (n : Nat) (la ln lm : List (List UInt8)) (u : List UInt8) (jt bm bn : Nat) (gi ga g : PH) (f : Nat) (vs : List Sl) (Γ : Ctx) : Prop :=
  vs = [] ∧ ∃ (gj gn : PH) (left : List (List UInt8 × Bool)) (ln2 : List (List UInt8)), Γ = [gj, gi, gn, ga, g] ∧ f = left.length + 1 ∧ ItM (lk [g]) gj jt bm strB Value.bool left ∧ (∀ p ∈ left, p.1 ∈ lm ∧ p.2 = true) ∧ StrM gn bn ln2 ∧
    NxOk maps y n la ln2 ∧ (∀ x ∈ ln, x ∈ ln2) ∧ (∀ v ∈ lm, (v, true) ∉ left → (u ++ v).length ≤ n → u ++ v ∈ ln2)
/-- what is found is put in -/
def ZI (maps : List (List (List UInt8))) (rl : Nat) (la l0 : List (List UInt8)) (again : Bool) (it ba bo : Nat) (ga : PH) (f : Nat) (vs : List Sl) (Γ : Ctx) : Prop :=
  ∃ (again3 : Bool) (gi g3 : PH) (left : List (List UInt8 × Bool)) (l3 : List (List UInt8)), vs = [.v true (.bool again3)] ∧ Γ = [gi, ga, g3] ∧ f = left.length + 1 ∧ ItM (lk [ga]) gi it ba strB Value.bool left ∧ (∀ p ∈ left, p.1 ∈ la ∧ p.2 = true) ∧ GridS g3 bo 118 (maps.set rl l3) ∧
    (∀ x ∈ l0, x ∈ l3) ∧ (∀ x ∈ l3, x ∈ l0 ∨ x ∈ la) ∧ l0.length ≤ l3.length ∧ (again3 = true → again = true ∨ l0.length < l3.length) ∧ (again3 = false → again = false ∧ l3 = l0) ∧ (∀ x ∈ la, (x, true) ∉ left → x ∈ l3)
set_option maxHeartbeats 8000000 in
theorem ref_wordsOf {Γr : Ctx} {A : Option Addr} {c : Nat} {rs : List Ru} (hx : SlOk (lk Γr) A c rs) {N n most : Nat} (V : RsOk rs N) (hN : N ≤ 1000) (hn : n ≤ 900) (hm : most ≤ 100000) :
    Ret Try.prog 134 [.agg #[.int .i64 N, .slice A rs.length c], .int .i64 n, .int .i64 most] Γr [] (fun v Γ =>
      (Γ = [] ∧ v = .tuple #[.slice none 0 0, .bool false] ∧ ManyW rs n most) ∨ (∃ g bo maps, Γ = [g] ∧ v = .tuple #[.slice (some ⟨bo, 0, none⟩) N N, .bool true] ∧ GridS g bo 118 maps ∧ WordsS rs N n maps)) := by
  generalize hR : (fun (v : Value) (Γ : Ctx) => _ ∨ _) = R
  refine ret_of_vc tr134 (Nat.le_of_ble_eq_true rfl) ?_
  have hvl := V.len
  simp -implicitDefEqProofs only [S134, S134_0, go_sem, Nat.reduceBEq, Nat.reduceAdd, Nat.reduceSub, Nat.reduceMul, Nat.reduceLeDiff, reduceCtorEq, ↓reduceIte, Int.reduceLT, Int.reduceLE, Int.reduceEq, Int.reduceNe]
  intro b0
  refine ⟨by omega, by omega, fun bo => ?_⟩
  refine s_loop (fun f vs Γ => ∃ g, Γ = [g] ∧ ∃ (k : Nat) (bs : List Nat), vs = [.v true (.int .i64 k)] ∧ k + f = N ∧ bs.length = k ∧ PartS g bo 118 N bs) N
    (Up.here ⟨_, rfl, 0, [], rfl, by omega, rfl, PartS.made bo 118 N⟩) ?_
  rintro f vs Γ ⟨g, rfl, k, bs, rfl, hkf, hbl, hP⟩
  simp -implicitDefEqProofs only [S134_1, go_sem, Nat.reduceBEq, Nat.reduceAdd, Nat.reduceSub, Nat.reduceMul, Nat.reduceLeDiff, reduceCtorEq, ↓reduceIte, Int.reduceLT, Int.reduceLE, Int.reduceEq, Int.reduceNe]
  refine ⟨fun hlt => ?_, fun hge => ?_⟩
  · have hk : k < N := by omega
    refine s_mkmap fun bm => ?_
    simp -implicitDefEqProofs only [go_sem, Nat.reduceBEq, Nat.reduceAdd, Nat.reduceSub, Nat.reduceMul, Nat.reduceLeDiff, reduceCtorEq, ↓reduceIte, Int.reduceLT, Int.reduceLE, Int.reduceEq, Int.reduceNe]
    refine s_idx rfl (by omega) (by omega) ?_
    simp -implicitDefEqProofs only [go_sem, Nat.reduceBEq, Nat.reduceAdd, Nat.reduceSub, Nat.reduceMul, Nat.reduceLeDiff, reduceCtorEq, ↓reduceIte, Int.reduceLT, Int.reduceLE, Int.reduceEq, Int.reduceNe]
    refine s_storeS (ix := 1) (k := bm) rfl hP (i := k) hbl.symm (by omega) ?_
    intro g' hput
    simp -implicitDefEqProofs only [go_sem, Nat.reduceBEq, Nat.reduceAdd, Nat.reduceSub, Nat.reduceMul, Nat.reduceLeDiff, reduceCtorEq, ↓reduceIte, Int.reduceLT, Int.reduceLE, Int.reduceEq, Int.reduceNe]
    simp (disch := omega) only [wrap_id]
    refine ⟨f - 1, by omega, Up.apart fun hd => Up.one fun G hG' => ⟨_, rfl, k + 1, bs ++ [bm], rfl, by omega, by simp [hbl], ?_⟩⟩
    exact hput _ _ (MapM.new _ _ _ _) ((List.pairwise_cons.1 hd).1 g' (by simp)) hG'
  have hk : k = N := by omega
  have hG := hP.full (by omega)
  refine s_loop (fun f vs Γ => ∃ (again : Bool) (g : PH) (maps : List (List (List UInt8))), vs = [.v true (.bool again)] ∧ Γ = [g] ∧ f = 2 * (N * most - tot maps) + again.toNat ∧ GridS g bo 118 maps ∧ maps.length = N ∧ (∀ l ∈ maps, l.length ≤ most) ∧ (∀ a x, Em maps a x → DerN u8 rs a x ∧ x.length ≤ n) ∧ (again = false → WClosed (Em maps) n rs)) _
    (Up.here ⟨true, g, _, rfl, rfl, rfl, hG, by simp, by simp, fun a x h => absurd h em_none, by simp⟩) ?_
  clear hG hP hbl hkf hk
  rintro f vs Γ ⟨again, g, maps, rfl, rfl, hf, hG, hml, hsm, hS, hC⟩
  simp -implicitDefEqProofs only [S134_9, go_sem, Nat.reduceBEq, Nat.reduceAdd, Nat.reduceSub, Nat.reduceMul, Nat.reduceLeDiff, reduceCtorEq, ↓reduceIte, Int.reduceLT, Int.reduceLE, Int.reduceEq, Int.reduceNe]
  refine ⟨fun hmt => ?_, fun hmf => ?_⟩
  · subst hmt
    refine s_loop (fun f2 vs Γ => ∃ (again : Bool) (k : Nat) (g : PH) (maps2 : List (List (List UInt8))), vs = [.v true (.bool again), .v true (.int .i64 k)] ∧ Γ = [g] ∧ k + f2 = rs.length ∧ GridS g bo 118 maps2 ∧ maps2.length = N ∧ (∀ l ∈ maps2, l.length ≤ most) ∧ (∀ a x, Em maps2 a x → DerN u8 rs a x ∧ x.length ≤ n) ∧ tot maps ≤ tot maps2 ∧ (again = true → tot maps < tot maps2) ∧ (again = false → maps2 = maps ∧ WClosed (Em maps) n (rs.take k))) rs.length
      (Up.here ⟨false, 0, g, maps, rfl, rfl, by omega, hG, hml, hsm, hS, Nat.le_refl _, by simp, fun _ => ⟨rfl, by simp [WClosed]⟩⟩) ?_
    clear hG
    rintro f2 vs Γ ⟨again2, k, g, maps2, rfl, rfl, hkf, hG, hml2, hsm2, hS2, ht2, ht3, hC2⟩
    simp -implicitDefEqProofs only [S134_8, go_sem, Nat.reduceBEq, Nat.reduceAdd, Nat.reduceSub, Nat.reduceMul, Nat.reduceLeDiff, reduceCtorEq, ↓reduceIte, Int.reduceLT, Int.reduceLE, Int.reduceEq, Int.reduceNe]
    refine ⟨fun hlt => ?_, fun hge => ?_⟩
    · have hk : k < rs.length := by omega
      have hmem : rs[k] ∈ rs := List.getElem_mem hk
      have hr4 := V.right _ hmem
      have hleft := V.left _ hmem
      have hsym := V.sym _ hmem
      have htk : rs.take (k + 1) = rs.take k ++ [rs[k]] := List.take_succ_eq_append_getElem hk
      obtain ⟨b1, o1, hA2, A3, c3, hr3, hc5⟩ := hx.ru hk
      generalize rs[k] = r at *
      refine s_idx hA2 (by omega) (by omega) ?_
      simp -implicitDefEqProofs only [go_sem, Nat.reduceBEq, Nat.reduceAdd, Nat.reduceSub, Nat.reduceMul, Nat.reduceLeDiff, reduceCtorEq, ↓reduceIte, Int.reduceLT, Int.reduceLE, Int.reduceEq, Int.reduceNe]
      refine s_ld0 (hc5 _ (lk_r _ _)) (by simp) (by simp) ?_
      simp -implicitDefEqProofs only [go_sem, Nat.reduceBEq, Nat.reduceAdd, Nat.reduceSub, Nat.reduceMul, Nat.reduceLeDiff, reduceCtorEq, ↓reduceIte, Int.reduceLT, Int.reduceLE, Int.reduceEq, Int.reduceNe]
      intro b2
      refine s_mkmap fun ba => ?_
      simp -implicitDefEqProofs only [go_sem, Nat.reduceBEq, Nat.reduceAdd, Nat.reduceSub, Nat.reduceMul, Nat.reduceLeDiff, reduceCtorEq, ↓reduceIte, Int.reduceLT, Int.reduceLE, Int.reduceEq, Int.reduceNe]
      refine s_addT (t := 232) (kt := 9) (x := []) (l := []) (by kernel_rfl) (by kernel_rfl) (ix := 0) rfl (MapM.new _ _ _ _) (by simp) ?_
      intro ga hA0 _
      have hA0 : StrM ga ba [[]] := hA0
      simp -implicitDefEqProofs only [go_sem, Nat.reduceBEq, Nat.reduceAdd, Nat.reduceSub, Nat.reduceMul, Nat.reduceLeDiff, reduceCtorEq, ↓reduceIte, Int.reduceLT, Int.reduceLE, Int.reduceEq, Int.reduceNe]
      refine s_loop (fun f3 vs Γ => ∃ (ba : Nat) (q : Nat) (ga : PH) (la : List (List UInt8)), vs = [.v true (.map (some ba)), .v true (.int .i64 q)] ∧ Γ = [ga, g] ∧ q + f3 = r.r.length ∧ StrM ga ba la ∧ ∀ x, x ∈ la ↔ Cmb u8 (Em maps2) (r.r.take q) x ∧ x.length ≤ n) r.r.length
        (Up.here ⟨ba, 0, ga, _, rfl, rfl, by omega, hA0, fun x => by simp [Cmb]; exact fun h => by subst h; simp⟩) ?_
      clear hA0
      rintro f3 vs Γ ⟨ba, q, ga, la, rfl, rfl, hqf, hA, hla⟩
      simp -implicitDefEqProofs only [S134_6, go_sem, Nat.reduceBEq, Nat.reduceAdd, Nat.reduceSub, Nat.reduceMul, Nat.reduceLeDiff, reduceCtorEq, ↓reduceIte, Int.reduceLT, Int.reduceLE, Int.reduceEq, Int.reduceNe]
      refine ⟨fun hlt => ?_, fun hge => ?_⟩
      · have hq : q < r.r.length := by omega
        have hsm : r.r[q] ∈ r.r := List.getElem_mem hq
        have hs := hsym _ hsm
        have htk2 : r.r.take (q + 1) = r.r.take q ++ [r.r[q]] := List.take_succ_eq_append_getElem hq
        obtain ⟨b3, o3, hA4, hc6⟩ := hr3.sy hq
        generalize r.r[q] = y at *
        refine s_idx hA4 (by omega) (by omega) ?_
        simp -implicitDefEqProofs only [go_sem, Nat.reduceBEq, Nat.reduceAdd, Nat.reduceSub, Nat.reduceMul, Nat.reduceLeDiff, reduceCtorEq, ↓reduceIte, Int.reduceLT, Int.reduceLE, Int.reduceEq, Int.reduceNe]
        refine s_ld0 (hc6 _ (lk_r _ _)) (by simp) (by simp) ?_
        simp -implicitDefEqProofs only [go_sem, Nat.reduceBEq, Nat.reduceAdd, Nat.reduceSub, Nat.reduceMul, Nat.reduceLeDiff, reduceCtorEq, ↓reduceIte, Int.reduceLT, Int.reduceLE, Int.reduceEq, Int.reduceNe]
        intro b4
        refine s_mkmap fun bn => ?_
        simp -implicitDefEqProofs only [go_sem, Nat.reduceBEq, Nat.reduceAdd, Nat.reduceSub, Nat.reduceMul, Nat.reduceLeDiff, reduceCtorEq, ↓reduceIte, Int.reduceLT, Int.reduceLE, Int.reduceEq, Int.reduceNe]
        refine s_rng (L := lk [ga]) (t := 232) (kt := 9) (et := 4) (by kernel_rfl) (hA.l (by simp)) (lk_sub (by simp)) ?_
        intro it gi hI
        simp -implicitDefEqProofs only [go_sem, Nat.reduceBEq, Nat.reduceAdd, Nat.reduceSub, Nat.reduceMul, Nat.reduceLeDiff, reduceCtorEq, ↓reduceIte, Int.reduceLT, Int.reduceLE, Int.reduceEq, Int.reduceNe]
        have hX : ∀ x, x ∈ la → x.length ≤ n := fun x h => ((hla x).1 h).2
        refine s_loop (XI maps2 y n la it ba bn ga g) _
          (Up.here ⟨rfl, gi, _, _, [], rfl, rfl, hI, fun p hp => mset_mem.1 hp, MapM.new _ _ _ _, by simp [NxOk], fun u hu hno => absurd (mset_mem.2 ⟨hu, rfl⟩) hno⟩) ?_
        clear hI
        rintro f4 vs Γ ⟨rfl, gi, gn, left, ln, rfl, rfl, hI, hle, hN2, hns, hnc⟩
        simp -implicitDefEqProofs only [S134_5, go_sem, Nat.reduceBEq, Nat.reduceAdd, Nat.reduceSub, Nat.reduceMul, Nat.reduceLeDiff, reduceCtorEq, ↓reduceIte, Int.reduceLT, Int.reduceLE, Int.reduceEq, Int.reduceNe]
        refine s_next (ix := 0) rfl hI (lk_sub (by simp)) (fun hl0 => ?_) ?_
        · subst hl0
          simp -implicitDefEqProofs only [go_sem, Nat.reduceBEq, Nat.reduceAdd, Nat.reduceSub, Nat.reduceMul, Nat.reduceLeDiff, reduceCtorEq, ↓reduceIte, Int.reduceLT, Int.reduceLE, Int.reduceEq, Int.reduceNe]
          simp (disch := omega) only [wrap_id]
          refine ⟨f3 - 1, by omega, Up.sel [[1], [3]] (by decide) fun _ _ => ⟨bn, q + 1, _, ln, rfl, rfl, by omega, hN2, fun x => ?_⟩⟩
          rw [htk2, cmb_snoc]
          constructor
          · intro h
            obtain ⟨u, v, h1, h2, h3, h4⟩ := hns x h
            exact ⟨⟨u, v, h2, ((hla u).1 h1).1, h3⟩, h4⟩
          · rintro ⟨⟨u, v, rfl, h1, h2⟩, h3⟩
            exact hnc u ((hla u).2 ⟨h1, by rw [List.length_append] at h3; omega⟩) (by simp) v h2 h3
        · intro gi' p left' hmem hlen hI' hcur
          have hp := hle p ((hmem p).2 (.inl rfl))
          obtain ⟨u, tt⟩ := p
          obtain ⟨hu, rfl⟩ : u ∈ la ∧ tt = true := hp
          simp -implicitDefEqProofs only [go_sem, Nat.reduceBEq, Nat.reduceAdd, Nat.reduceSub, Nat.reduceMul, Nat.reduceLeDiff, reduceCtorEq, ↓reduceIte, Int.reduceLT, Int.reduceLE, Int.reduceEq, Int.reduceNe]
          refine s_q trivial (qr_entry hcur (lk_sub (by simp)) (by simp)) ?_
          have hun := hX u hu
          have hle' : ∀ p ∈ left', p.1 ∈ la ∧ p.2 = true := fun p h => hle p ((hmem p).2 (.inr h))
          have fin : ∀ gn' ln', StrM gn' bn ln' → NxOk maps2 y n la ln' → (∀ x ∈ ln, x ∈ ln') → (∀ v, SyC u8 (Em maps2) y v → (u ++ v).length ≤ n → u ++ v ∈ ln') → ∃ n', n' < left.length + 1 ∧ Up [gi', gn', ga, g] (XI maps2 y n la it ba bn ga g n' []) := by
            intro gn' ln' h1 h2 h3 h4
            refine ⟨left'.length + 1, by omega, Up.here ⟨rfl, gi', gn', left', ln', rfl, rfl, hI', hle', h1, h2, fun u' hu' hno v hv hl => ?_⟩⟩
            by_cases e : u' = u
            · subst e; exact h4 v hv hl
            · refine h3 _ (hnc u' hu' (fun q => ?_) v hv hl)
              rcases (hmem _).1 q with q | q
              · exact e (by simpa using q)
              · exact hno q
          simp -implicitDefEqProofs only [go_sem, Nat.reduceBEq, Nat.reduceAdd, Nat.reduceSub, Nat.reduceMul, Nat.reduceLeDiff, reduceCtorEq, ↓reduceIte, Int.reduceLT, Int.reduceLE, Int.reduceEq, Int.reduceNe]
          refine ⟨fun ht => ?_, fun ht => ?_⟩
          · have hwb : IntKind.u8.wrap y.n = ((u8 y.n).toNat : Int) := wrap_by hs.1 (hs.2.1 ht)
            refine s_split ?_
            simp -implicitDefEqProofs only [S134_2, S134_3, lenC, lenV_strB, go_sem, Nat.reduceBEq, Nat.reduceAdd, Nat.reduceSub, Nat.reduceMul, Nat.reduceLeDiff, reduceCtorEq, ↓reduceIte, Int.reduceLT, Int.reduceLE, Int.reduceEq, Int.reduceNe]
            refine ⟨fun hl b5 => ?_, fun hl => Up.here ?_⟩
            · rw [hwb]
              have hlit : SlOk (lk [one b5 (.cells [Value.int IntKind.u8 ((u8 y.n).toNat : Int)].toArray 5)]) (some ⟨b5, 0, none⟩) 1 [(⟨u8 y.n⟩ : By)] := lit_slok [(⟨u8 y.n⟩ : By)] rfl (by simp)
              refine s_q (x := strB [u8 y.n]) trivial (qr_bytes (s := 233) (d := 9) (e := 5) (xs := [(⟨u8 y.n⟩ : By)]) (by kernel_rfl) (by kernel_rfl) (by kernel_rfl) hlit (lk_sub (by simp))) ?_
              simp -implicitDefEqProofs only [fn_cat (a := u) (b := [u8 y.n]) (by simp; omega), fnC_eq, go_sem, Nat.reduceBEq, Nat.reduceAdd, Nat.reduceSub, Nat.reduceMul, Nat.reduceLeDiff, reduceCtorEq, ↓reduceIte, Int.reduceLT, Int.reduceLE, Int.reduceEq, Int.reduceNe]
              refine s_addT (t := 232) (kt := 9) (x := u ++ [u8 y.n]) (by kernel_rfl) (by kernel_rfl) (ix := 2) rfl hN2 (by simp; omega) ?_
              intro gn' hN' _
              simp -implicitDefEqProofs only [go_sem, Nat.reduceBEq, Nat.reduceAdd, Nat.reduceSub, Nat.reduceMul, Nat.reduceLeDiff, reduceCtorEq, ↓reduceIte, Int.reduceLT, Int.reduceLE, Int.reduceEq, Int.reduceNe]
              refine Up.sel [[1], [2], [3], [4]] (by decide) fun _ _ => fin gn' _ hN' (fun x hx => ?_) (fun x hx => addT_mem.2 (.inl hx)) (fun v hv _ => ?_)
              · rcases addT_mem.1 hx with hx | rfl
                · exact hns x hx
                · exact ⟨u, [u8 y.n], hu, rfl, by simp [SyC, ht], by simp; omega⟩
              · have : v = [u8 y.n] := by simpa [SyC, ht] using hv
                subst this
                exact addT_mem.2 (.inr rfl)
            · refine fin gn ln hN2 hns (fun x h => h) (fun v hv hl2 => ?_)
              have : v = [u8 y.n] := by simpa [SyC, ht] using hv
              subst this
              simp at hl2
              omega
          · have hy0 := hs.1
            have hyN := hs.2.2 ht
            have hyn : y.n.toNat < maps2.length := by omega
            have hSy : ∀ v, SyC u8 (Em maps2) y v ↔ v ∈ maps2[y.n.toNat] := fun v => by
              simp only [SyC, ht]
              exact em_at' hy0 hyn
            have hlm : ∀ v ∈ maps2[y.n.toNat], v.length ≤ n := fun v hv => (hS2 _ _ ((em_at' hy0 hyn).2 hv)).2
            obtain ⟨bm, hcell, hM, hne, hput⟩ := hG.at' hyn
            clear hput
            generalize maps2[y.n.toNat] = lm at *
            refine s_idx rfl hy0 (by omega) ?_
            simp -implicitDefEqProofs only [go_sem, Nat.reduceBEq, Nat.reduceAdd, Nat.reduceSub, Nat.reduceMul, Nat.reduceLeDiff, reduceCtorEq, ↓reduceIte, Int.reduceLT, Int.reduceLE, Int.reduceEq, Int.reduceNe]
            refine s_ld0 (hcell _ (by simp)) (by simp) (by simp) ?_
            simp -implicitDefEqProofs only [go_sem, Nat.reduceBEq, Nat.reduceAdd, Nat.reduceSub, Nat.reduceMul, Nat.reduceLeDiff, reduceCtorEq, ↓reduceIte, Int.reduceLT, Int.reduceLE, Int.reduceEq, Int.reduceNe]
            refine s_rng (L := lk [g]) (t := 118) (kt := 9) (et := 4) (by kernel_rfl) (hM.l (by simp)) (lk_sub (by simp)) ?_
            intro jt gj hJ
            simp -implicitDefEqProofs only [go_sem, Nat.reduceBEq, Nat.reduceAdd, Nat.reduceSub, Nat.reduceMul, Nat.reduceLeDiff, reduceCtorEq, ↓reduceIte, Int.reduceLT, Int.reduceLE, Int.reduceEq, Int.reduceNe]
            refine s_loop (YI maps2 y n la ln lm u jt bm bn gi' ga g) _
              (Up.here ⟨rfl, gj, _, _, ln, rfl, rfl, hJ, fun p hp => mset_mem.1 hp, hN2, hns, fun x h => h, fun u hu hno => absurd (mset_mem.2 ⟨hu, rfl⟩) hno⟩) ?_
            clear hJ
            rintro f5 vs Γ ⟨rfl, gj, gn2, left2, ln2, rfl, rfl, hJ, hle2, hN3, hns2, hin2, hnc2⟩
            simp -implicitDefEqProofs only [S134_4, go_sem, Nat.reduceBEq, Nat.reduceAdd, Nat.reduceSub, Nat.reduceMul, Nat.reduceLeDiff, reduceCtorEq, ↓reduceIte, Int.reduceLT, Int.reduceLE, Int.reduceEq, Int.reduceNe]
            refine s_next (ix := 0) rfl hJ (lk_sub (by simp)) (fun hl0 => ?_) ?_
            · subst hl0
              simp -implicitDefEqProofs only [go_sem, Nat.reduceBEq, Nat.reduceAdd, Nat.reduceSub, Nat.reduceMul, Nat.reduceLeDiff, reduceCtorEq, ↓reduceIte, Int.reduceLT, Int.reduceLE, Int.reduceEq, Int.reduceNe]
              obtain ⟨n', h1, h2⟩ := fin gn2 ln2 hN3 hns2 hin2 (fun v hv hl => hnc2 v ((hSy v).1 hv) (by simp) hl)
              exact ⟨n', h1, h2.skip⟩
            · intro gj' p left3 hmem2 hlen2 hJ' hcur2
              have hp := hle2 p ((hmem2 p).2 (.inl rfl))
              obtain ⟨v, tt⟩ := p
              obtain ⟨hv, rfl⟩ : v ∈ lm ∧ tt = true := hp
              simp -implicitDefEqProofs only [go_sem, Nat.reduceBEq, Nat.reduceAdd, Nat.reduceSub, Nat.reduceMul, Nat.reduceLeDiff, reduceCtorEq, ↓reduceIte, Int.reduceLT, Int.reduceLE, Int.reduceEq, Int.reduceNe]
              refine s_q trivial (qr_entry hcur2 (lk_sub (by simp)) (by simp)) ?_
              have hvn := hlm v hv
              have hle3 : ∀ p ∈ left3, p.1 ∈ lm ∧ p.2 = true := fun p h => hle2 p ((hmem2 p).2 (.inr h))
              have fin2 : ∀ gn' ln', StrM gn' bn ln' → NxOk maps2 y n la ln' → (∀ x ∈ ln2, x ∈ ln') → ((u ++ v).length ≤ n → u ++ v ∈ ln') → ∃ n', n' < left2.length + 1 ∧ Up [gj', gi', gn', ga, g] (YI maps2 y n la ln lm u jt bm bn gi' ga g n' []) := by
                intro gn' ln' h1 h2 h3 h4
                refine ⟨left3.length + 1, by omega, Up.here ⟨rfl, gj', gn', left3, ln', rfl, rfl, hJ', hle3, h1, h2, fun x hx => h3 x (hin2 x hx), fun v' hv' hno hl => ?_⟩⟩
                by_cases e : v' = v
                · subst e; exact h4 hl
                · refine h3 _ (hnc2 v' hv' (fun q => ?_) hl)
                  rcases (hmem2 _).1 q with q | q
                  · exact e (by simpa using q)
                  · exact hno q
              simp -implicitDefEqProofs only [lenC, lenV_strB, go_sem, Nat.reduceBEq, Nat.reduceAdd, Nat.reduceSub, Nat.reduceMul, Nat.reduceLeDiff, reduceCtorEq, ↓reduceIte, Int.reduceLT, Int.reduceLE, Int.reduceEq, Int.reduceNe]
              simp (disch := omega) only [wrap_id]
              refine ⟨fun hl => ?_, fun hl => ?_⟩
              · simp -implicitDefEqProofs only [fn_cat (a := u) (b := v) (by omega), fnC_eq, go_sem, Nat.reduceBEq, Nat.reduceAdd, Nat.reduceSub, Nat.reduceMul, Nat.reduceLeDiff, reduceCtorEq, ↓reduceIte, Int.reduceLT, Int.reduceLE, Int.reduceEq, Int.reduceNe]
                refine s_addT (t := 232) (kt := 9) (x := u ++ v) (by kernel_rfl) (by kernel_rfl) (ix := 2) rfl hN3 (by simp; omega) ?_
                intro gn' hN' _
                simp -implicitDefEqProofs only [go_sem, Nat.reduceBEq, Nat.reduceAdd, Nat.reduceSub, Nat.reduceMul, Nat.reduceLeDiff, reduceCtorEq, ↓reduceIte, Int.reduceLT, Int.reduceLE, Int.reduceEq, Int.reduceNe]
                refine fin2 gn' _ hN' (fun x hx => ?_) (fun x hx => addT_mem.2 (.inl hx)) (fun _ => addT_mem.2 (.inr rfl))
                rcases addT_mem.1 hx with hx | rfl
                · exact hns2 x hx
                · exact ⟨u, v, hu, rfl, (hSy v).2 hv, by simp; omega⟩
              · exact fin2 gn2 ln2 hN3 hns2 (fun x h => h) (fun h => by simp at h; omega)
      · have hq : q = r.r.length := by omega
        rw [hq, List.take_length] at hla
        have hrl : r.l.toNat < maps2.length := by omega
        have hrl0 := hleft.1
        refine s_rng (L := lk [ga]) (t := 232) (kt := 9) (et := 4) (by kernel_rfl) (hA.l (by simp)) (lk_sub (by simp)) ?_
        intro it gi hI
        simp -implicitDefEqProofs only [go_sem, Nat.reduceBEq, Nat.reduceAdd, Nat.reduceSub, Nat.reduceMul, Nat.reduceLeDiff, reduceCtorEq, ↓reduceIte, Int.reduceLT, Int.reduceLE, Int.reduceEq, Int.reduceNe]
        have hG0 : GridS g bo 118 (maps2.set r.l.toNat maps2[r.l.toNat]) := by rw [List.set_getElem_self]; exact hG
        have hlan : ∀ x ∈ la, x.length ≤ n := fun x h => ((hla x).1 h).2
        refine s_loop (ZI maps2 r.l.toNat la maps2[r.l.toNat] again2 it ba bo ga) _
          (Up.here ⟨again2, gi, g, _, maps2[r.l.toNat], rfl, rfl, rfl, hI, fun p hp => mset_mem.1 hp, hG0, fun x h => h, fun x h => .inl h, Nat.le_refl _, fun h => .inl h, fun h => ⟨h, rfl⟩, fun u hu hno => absurd (mset_mem.2 ⟨hu, rfl⟩) hno⟩) ?_
        clear hI hG0
        rintro f6 vs Γ ⟨again3, gi, g3, left, l3, rfl, rfl, rfl, hI, hle, hG3, hz1, hz2, hz3, hz4, hz5, hz6⟩
        have hset : (maps2.set r.l.toNat l3).length = N := by rw [List.length_set]; exact hml2
        have hrl3 : r.l.toNat < (maps2.set r.l.toNat l3).length := by omega
        have hget : (maps2.set r.l.toNat l3)[r.l.toNat] = l3 := List.getElem_set_self ..
        obtain ⟨bm, hcell, hM, hne, hput⟩ := hG3.at' hrl3
        rw [hget] at hM
        simp -implicitDefEqProofs only [S134_7, go_sem, Nat.reduceBEq, Nat.reduceAdd, Nat.reduceSub, Nat.reduceMul, Nat.reduceLeDiff, reduceCtorEq, ↓reduceIte, Int.reduceLT, Int.reduceLE, Int.reduceEq, Int.reduceNe]
        refine s_next (ix := 0) rfl hI (lk_sub (by simp)) (fun hl0 => ?_) ?_
        · subst hl0
          simp -implicitDefEqProofs only [go_sem, Nat.reduceBEq, Nat.reduceAdd, Nat.reduceSub, Nat.reduceMul, Nat.reduceLeDiff, reduceCtorEq, ↓reduceIte, Int.reduceLT, Int.reduceLE, Int.reduceEq, Int.reduceNe]
          have hz7 : ∀ x ∈ la, x ∈ l3 := fun x hx => hz6 x hx (by simp)
          have hEr : ∀ x, x ∈ maps2[r.l.toNat] ↔ Em maps2 r.l x := fun x => (em_at' hrl0 hrl).symm
          have hla2 : ∀ x ∈ la, DerN u8 rs r.l x ∧ x.length ≤ n := fun x hx => ⟨⟨r, hmem, rfl, cmb_sound (fun a w h => (hS2 a w h).1) ((hla x).1 hx).1⟩, hlan x hx⟩
          have hl3 : ∀ x ∈ l3, DerN u8 rs r.l x ∧ x.length ≤ n := fun x hx => by
            rcases hz2 x hx with q | q
            · exact hS2 _ _ ((hEr x).1 q)
            · exact hla2 x q
          refine s_idx rfl (by omega) (by omega) ?_
          simp -implicitDefEqProofs only [go_sem, Nat.reduceBEq, Nat.reduceAdd, Nat.reduceSub, Nat.reduceMul, Nat.reduceLeDiff, reduceCtorEq, ↓reduceIte, Int.reduceLT, Int.reduceLE, Int.reduceEq, Int.reduceNe]
          refine s_ld0 (hcell _ (by simp)) (by simp) (by simp) ?_
          simp -implicitDefEqProofs only [go_sem, Nat.reduceBEq, Nat.reduceAdd, Nat.reduceSub, Nat.reduceMul, Nat.reduceLeDiff, reduceCtorEq, ↓reduceIte, Int.reduceLT, Int.reduceLE, Int.reduceEq, Int.reduceNe]
          refine s_q trivial (qr_len (t := 118) (kt := 9) (et := 4) (by kernel_rfl) (hM.l (by simp))) ?_
          have hml3 : (mset id l3).length = l3.length := by simp [mset]
          rw [hml3]
          simp -implicitDefEqProofs only [go_sem, Nat.reduceBEq, Nat.reduceAdd, Nat.reduceSub, Nat.reduceMul, Nat.reduceLeDiff, reduceCtorEq, ↓reduceIte, Int.reduceLT, Int.reduceLE, Int.reduceEq, Int.reduceNe]
          refine ⟨fun hbig => Up.to [] (Ent.nil _) ?_, fun hsmall => ?_⟩
          · subst hR
            exact .inl ⟨rfl, rfl, r.l, l3, SetS.nodup (hM.l (Γ := [g3]) (by simp)), by omega, hl3⟩
          · simp (disch := omega) only [wrap_id]
            have htot := tot_set hrl l3
            refine ⟨f2 - 1, by omega, Up.sel [[2]] (by decide) fun _ _ => ⟨again3, k + 1, _, maps2.set r.l.toNat l3, rfl, rfl, by omega, hG3, hset, fun l hl => ?_, fun a x h => ?_, by omega, fun h => ?_, fun h => ?_⟩⟩
            · rcases List.mem_or_eq_of_mem_set hl with q | q
              · exact hsm2 l q
              · rw [q]; omega
            · rcases (em_set hrl).1 h with ⟨rfl, q⟩ | ⟨_, q⟩
              · rw [show ((r.l.toNat : Nat) : Int) = r.l by omega]
                exact hl3 x q
              · exact hS2 a x q
            · rcases hz4 h with q | q
              · have := ht3 q; omega
              · omega
            · obtain ⟨q1, q2⟩ := hz5 h
              obtain ⟨q3, q4⟩ := hC2 q1
              refine ⟨by rw [q2, List.set_getElem_self]; exact q3, fun r' hr' x hc hl => ?_⟩
              rw [htk] at hr'
              rcases List.mem_append.1 hr' with h1 | h1
              · exact q4 r' h1 x hc hl
              · simp at h1
                subst h1
                rw [← q3] at hc ⊢
                rw [← hEr, ← q2]
                exact hz7 x ((hla x).2 ⟨hc, hl⟩)
        · intro gi' p left' hmem hlen hI' hcur
          have hp := hle p ((hmem p).2 (.inl rfl))
          obtain ⟨u, tt⟩ := p
          obtain ⟨hu, rfl⟩ : u ∈ la ∧ tt = true := hp
          simp -implicitDefEqProofs only [go_sem, Nat.reduceBEq, Nat.reduceAdd, Nat.reduceSub, Nat.reduceMul, Nat.reduceLeDiff, reduceCtorEq, ↓reduceIte, Int.reduceLT, Int.reduceLE, Int.reduceEq, Int.reduceNe]
          refine s_q trivial (qr_entry hcur (lk_sub (by simp)) (by simp)) ?_
          have hun := hlan u hu
          have hle' : ∀ p ∈ left', p.1 ∈ la ∧ p.2 = true := fun p h => hle p ((hmem p).2 (.inr h))
          simp -implicitDefEqProofs only [go_sem, Nat.reduceBEq, Nat.reduceAdd, Nat.reduceSub, Nat.reduceMul, Nat.reduceLeDiff, reduceCtorEq, ↓reduceIte, Int.reduceLT, Int.reduceLE, Int.reduceEq, Int.reduceNe]
          refine s_idx rfl (by omega) (by omega) ?_
          simp -implicitDefEqProofs only [go_sem, Nat.reduceBEq, Nat.reduceAdd, Nat.reduceSub, Nat.reduceMul, Nat.reduceLeDiff, reduceCtorEq, ↓reduceIte, Int.reduceLT, Int.reduceLE, Int.reduceEq, Int.reduceNe]
          refine s_ld0 (hcell _ (by simp)) (by simp) (by simp) ?_
          simp -implicitDefEqProofs only [go_sem, Nat.reduceBEq, Nat.reduceAdd, Nat.reduceSub, Nat.reduceMul, Nat.reduceLeDiff, reduceCtorEq, ↓reduceIte, Int.reduceLT, Int.reduceLE, Int.reduceEq, Int.reduceNe]
          refine s_q trivial (look_str (t := 118) (kt := 9) (by kernel_rfl) (by kernel_rfl) (hM.l (by simp)) (by omega)) ?_
          simp -implicitDefEqProofs only [go_sem, Nat.reduceBEq, Nat.reduceAdd, Nat.reduceSub, Nat.reduceMul, Nat.reduceLeDiff, reduceCtorEq, ↓reduceIte, Int.reduceLT, Int.reduceLE, Int.reduceEq, Int.reduceNe]
          have fin : ∀ again' g' l', GridS g' bo 118 (maps2.set r.l.toNat l') → (∀ x ∈ l3, x ∈ l') → (∀ x ∈ l', x ∈ l3 ∨ x = u) → l3.length ≤ l'.length → (again' = true → again3 = true ∨ l3.length < l'.length) → (again' = false → again3 = false ∧ l' = l3) → u ∈ l' → ∃ n', n' < left.length + 1 ∧ Up [gi', ga, g'] (ZI maps2 r.l.toNat la maps2[r.l.toNat] again2 it ba bo ga n' [.v true (.bool again')]) := by
            intro again' g' l' h1 h2 h3 h4 h5 h6 h7
            refine ⟨left'.length + 1, by omega, Up.here ⟨again', gi', g', left', l', rfl, rfl, rfl, hI', hle', h1, fun x hx => h2 x (hz1 x hx), fun x hx => ?_, by omega, fun h => ?_, fun h => ?_, fun x hx hno => ?_⟩⟩
            · rcases h3 x hx with q | rfl
              · exact hz2 x q
              · exact .inr hu
            · rcases h5 h with q | q
              · rcases hz4 q with q | q
                · exact .inl q
                · exact .inr (by omega)
              · exact .inr (by omega)
            · obtain ⟨q1, q2⟩ := h6 h
              obtain ⟨q3, q4⟩ := hz5 q1
              exact ⟨q3, by rw [q2, q4]⟩
            · by_cases e : x = u
              · subst e; exact h7
              · refine h2 x (hz6 x hx fun q => ?_)
                rcases (hmem _).1 q with q | q
                · exact e (by simpa using q)
                · exact hno q
          refine ⟨fun hno => ?_, fun hin => ?_⟩
          · refine s_idx rfl (by omega) (by omega) ?_
            simp -implicitDefEqProofs only [go_sem, Nat.reduceBEq, Nat.reduceAdd, Nat.reduceSub, Nat.reduceMul, Nat.reduceLeDiff, reduceCtorEq, ↓reduceIte, Int.reduceLT, Int.reduceLE, Int.reduceEq, Int.reduceNe]
            refine s_ld0 (hcell _ (by simp)) (by simp) (by simp) ?_
            simp -implicitDefEqProofs only [go_sem, Nat.reduceBEq, Nat.reduceAdd, Nat.reduceSub, Nat.reduceMul, Nat.reduceLeDiff, reduceCtorEq, ↓reduceIte, Int.reduceLT, Int.reduceLE, Int.reduceEq, Int.reduceNe]
            refine s_ment (kt_str (by kernel_rfl)) (t := 118) (kt := 9) (et := 4) (z := .bool false) (eV := Value.bool) (by kernel_rfl) (zero_run (by kernel_rfl)) (ix := 2) rfl hM (a := u) (by show u.length ≤ 1000; omega) (by rw [mset_keys, List.map_id]; exact hno) ?_
            intro g4 st hMe ho4
            simp -implicitDefEqProofs only [go_sem, Nat.reduceBEq, Nat.reduceAdd, Nat.reduceSub, Nat.reduceMul, Nat.reduceLeDiff, reduceCtorEq, ↓reduceIte, Int.reduceLT, Int.reduceLE, Int.reduceEq, Int.reduceNe]
            refine s_estore (ix := 2) rfl hMe true ?_
            intro g5 hM5 ho5
            simp -implicitDefEqProofs only [go_sem, Nat.reduceBEq, Nat.reduceAdd, Nat.reduceSub, Nat.reduceMul, Nat.reduceLeDiff, reduceCtorEq, ↓reduceIte, Int.reduceLT, Int.reduceLE, Int.reduceEq, Int.reduceNe]
            have hM5 : StrM g5 bm (l3 ++ [u]) := by
              have : mset id l3 ++ [(u, true)] = mset id (l3 ++ [u]) := by simp [mset]
              rw [this] at hM5
              exact hM5
            have hG5 := hput g5 _ hM5 fun k hk => by rw [ho5 k hk, ho4 k hk]
            rw [List.set_set] at hG5
            exact fin true g5 (l3 ++ [u]) hG5 (fun x hx => by simp [hx]) (fun x hx => by simpa using hx) (by simp) (fun _ => .inr (by simp)) (fun h => Bool.noConfusion h) (by simp)
          · exact fin again3 g3 l3 hG3 (fun x hx => hx) (fun x hx => .inl hx) (Nat.le_refl _) (fun h => .inl h) (fun h => ⟨h, rfl⟩) hin
    · have hk : k = rs.length := by omega
      subst hk
      rw [List.take_length] at hC2
      have h1 := tot_le hsm2
      rw [hml2] at h1
      refine ⟨2 * (N * most - tot maps2) + again2.toNat, ?_, Up.here ⟨again2, g, maps2, rfl, rfl, rfl, hG, hml2, hsm2, hS2, fun h => ?_⟩⟩
      · cases again2 with
        | true => have := ht3 rfl; simp only [hf, Bool.toNat_true]; omega
        | false => simp only [hf, Bool.toNat_true, Bool.toNat_false]; omega
      · obtain ⟨h1, h2⟩ := hC2 h
        rw [h1]
        exact h2
  · have hmf : again = false := by simpa using hmf
    refine Up.here ?_
    subst hR
    refine .inr ⟨g, bo, maps, rfl, rfl, hG, hml, fun a x h1 => ⟨hS a x, ?_⟩⟩
    rintro ⟨⟨r, hr, hra, hd⟩, hl⟩
    rw [← hra]
    exact hC hmf r hr x (cmb_all (hC hmf) hd hl) hl
end Go.Proofs.Ytniobbepliknmaa.V
/- The text of parlance/guess.accepts as a statement (slots: 0 g, 1 w, 2 g, 3 w, 5 ends, 6 after, 7 again, 8 _, 9 r, 10 i, 11 at, 12 _, 13 s, 14 to, 15 k); no condition. -/
namespace Go.Proofs.Ytniobbepliknmaa.V
open Go
def S178_1 : Stmt :=
  Stmt.block 9
  (Stmt.seq
    (Stmt.region
      [SOper.mk (some 47) none (SOp.mv (Operand.tmp 11)), SOper.mk (some 48) none (SOp.mv (Operand.tmp 15)),
        SOper.mk (some 49) none (SOp.ishift BinOp.shr (Operand.tmp 47) (Operand.tmp 48)),
        SOper.mk (some 50) none (SOp.fn (Fk.bits BinOp.and) [Operand.tmp 49, Operand.const (Value.int IntKind.u64 1)]),
        SOper.mk (some 51) none (SOp.ibin BinOp.eql (Operand.tmp 50) (Operand.const (Value.int IntKind.u64 1)))]
      [2, 3, 5, 6, 7, 9, 10, 11, 13, 14, 15, 19, 20, 21, 27, 28, 34, 35, 36, 51])
    (Stmt.cond (Operand.tmp 51)
      (Stmt.region
        [SOper.mk (some 52) none (SOp.mv (Operand.tmp 14)), SOper.mk (some 53) none (SOp.mv (Operand.tmp 6)),
          SOper.mk (some 54) none (SOp.load true 2 (Operand.tmp 13)), SOper.mk (some 55) none (SOp.mv (Operand.tmp 15)),
          SOper.mk (some 56) none (SOp.call (Operand.tmp 53) [Operand.tmp 54, Operand.tmp 55]),
          SOper.mk (some 57) none (SOp.fn (Fk.bits BinOp.or) [Operand.tmp 52, Operand.tmp 56]),
          SOper.mk (some 14) none (SOp.mv (Operand.tmp 57))]
        [2, 3, 5, 6, 7, 9, 10, 11, 13, 14, 15, 19, 20, 21, 27, 28, 34, 35, 36])
      Stmt.skip))
def S178_2 : Stmt :=
  Stmt.region
  [SOper.mk (some 45) none (SOp.mv (Operand.tmp 15)),
    SOper.mk (some 46) none (SOp.ibin BinOp.add (Operand.tmp 45) (Operand.const (Value.int IntKind.i64 1))),
    SOper.mk (some 15) none (SOp.mv (Operand.tmp 46))]
  [2, 3, 5, 6, 7, 9, 10, 11, 13, 14, 15, 19, 20, 21, 27, 28, 34, 35, 36]
def S178_3 : Stmt :=
  Stmt.seq
  (Stmt.seq
    (Stmt.region
      [SOper.mk (some 41) none (SOp.mv (Operand.tmp 15)), SOper.mk (some 42) none (SOp.load false 1 (Operand.tmp 3)),
        SOper.mk (some 43) none (SOp.len false (Operand.tmp 42)),
        SOper.mk (some 44) none (SOp.ibin BinOp.leq (Operand.tmp 41) (Operand.tmp 43))]
      [2, 3, 5, 6, 7, 9, 10, 11, 13, 14, 15, 19, 20, 21, 27, 28, 34, 35, 36, 44])
    (Stmt.cond (Operand.tmp 44) Stmt.skip (Stmt.exit 8)))
  (Stmt.join S178_1 S178_2 [14] [2, 3, 5, 6, 7, 9, 10, 11, 13, 15, 19, 20, 21, 27, 28, 34, 35, 36])
def S178_4 : Stmt :=
  Stmt.seq
  (Stmt.region [SOper.mk (some 37) none (SOp.ibin BinOp.lss (Operand.tmp 36) (Operand.tmp 35))]
    [2, 3, 5, 6, 7, 9, 10, 11, 19, 20, 21, 27, 28, 34, 35, 36, 37])
  (Stmt.seq (Stmt.cond (Operand.tmp 37) Stmt.skip (Stmt.exit 6))
    (Stmt.seq
      (Stmt.block 7
        (Stmt.seq
          (Stmt.region
            [SOper.mk (some 38) none (SOp.idx 2 (Operand.tmp 34) (Operand.tmp 36)),
              SOper.mk (some 39) none (SOp.load true 2 (Operand.tmp 38)),
              SOper.mk (some 13) none
                (SOp.alloc true 39 (Value.agg (Array.mk [Value.bool false, Value.int IntKind.i64 0]))),
              SOper.mk none none (SOp.store 2 (Operand.tmp 13) (Operand.tmp 39))]
            [2, 3, 5, 6, 7, 9, 10, 11, 13, 19, 20, 21, 27, 28, 34, 35, 36])
          (Stmt.seq
            (Stmt.region [SOper.mk (some 14) none (SOp.mv (Operand.const (Value.int IntKind.u64 0)))]
              [2, 3, 5, 6, 7, 9, 10, 11, 13, 14, 19, 20, 21, 27, 28, 34, 35, 36])
            (Stmt.seq
              (Stmt.seq
                (Stmt.region
                  [SOper.mk (some 40) none (SOp.mv (Operand.tmp 10)), SOper.mk (some 15) none (SOp.mv (Operand.tmp 40))]
                  [2, 3, 5, 6, 7, 9, 10, 11, 13, 14, 15, 19, 20, 21, 27, 28, 34, 35, 36])
                (Stmt.block 8
                  (Stmt.loop S178_3 [14, 15] [2, 3, 5, 6, 7, 9, 10, 11, 13, 19, 20, 21, 27, 28, 34, 35, 36])))
              (Stmt.region
                [SOper.mk (some 58) none (SOp.mv (Operand.tmp 14)), SOper.mk (some 11) none (SOp.mv (Operand.tmp 58))]
                [2, 3, 5, 6, 7, 9, 10, 11, 19, 20, 21, 27, 28, 34, 35, 36])))))
      (Stmt.region
        [SOper.mk (some 59) none (SOp.ibin BinOp.add (Operand.tmp 36) (Operand.const (Value.int IntKind.i64 1))),
          SOper.mk (some 36) none (SOp.mv (Operand.tmp 59))]
        [2, 3, 5, 6, 7, 9, 10, 11, 19, 20, 21, 27, 28, 34, 35, 36])))
def S178_5 : Stmt :=
  Stmt.block 5
  (Stmt.seq
    (Stmt.region [SOper.mk (some 30) none (SOp.mv (Operand.tmp 28)), SOper.mk (some 10) none (SOp.mv (Operand.tmp 30))]
      [2, 3, 5, 6, 7, 9, 10, 19, 20, 21, 27, 28])
    (Stmt.seq
      (Stmt.region
        [SOper.mk (some 31) none (SOp.mv (Operand.tmp 10)),
          SOper.mk (some 32) none (SOp.ishift BinOp.shl (Operand.const (Value.int IntKind.u64 1)) (Operand.tmp 31)),
          SOper.mk (some 11) none (SOp.mv (Operand.tmp 32))]
        [2, 3, 5, 6, 7, 9, 10, 11, 19, 20, 21, 27, 28])
      (Stmt.seq
        (Stmt.seq
          (Stmt.region
            [SOper.mk (some 33) none (SOp.fld 1 (Operand.tmp 9)),
              SOper.mk (some 34) none (SOp.load false 1 (Operand.tmp 33)),
              SOper.mk (some 35) none (SOp.len false (Operand.tmp 34)),
              SOper.mk (some 36) none (SOp.mv (Operand.const (Value.int IntKind.i64 0)))]
            [2, 3, 5, 6, 7, 9, 10, 11, 19, 20, 21, 27, 28, 34, 35, 36])
          (Stmt.block 6 (Stmt.loop S178_4 [11, 36] [2, 3, 5, 6, 7, 9, 10, 19, 20, 21, 27, 28, 34, 35])))
        (Stmt.seq
          (Stmt.region
            [SOper.mk (some 60) none (SOp.mv (Operand.tmp 11)), SOper.mk (some 61) none (SOp.fld 0 (Operand.tmp 9)),
              SOper.mk (some 62) none (SOp.load false 1 (Operand.tmp 61)),
              SOper.mk (some 63) none (SOp.mv (Operand.tmp 10)),
              SOper.mk (some 64) none (SOp.idxA 2 6 (Operand.tmp 5) (Operand.tmp 62)),
              SOper.mk (some 65) none (SOp.idxA 6 1 (Operand.tmp 64) (Operand.tmp 63)),
              SOper.mk (some 66) none (SOp.load false 1 (Operand.tmp 65)),
              SOper.mk (some 67) none (SOp.fn (Fk.bits BinOp.andNot) [Operand.tmp 60, Operand.tmp 66]),
              SOper.mk (some 68) none (SOp.ibin BinOp.neq (Operand.tmp 67) (Operand.const (Value.int IntKind.u64 0)))]
            [2, 3, 5, 6, 7, 9, 10, 11, 19, 20, 21, 27, 28, 68])
          (Stmt.cond (Operand.tmp 68)
            (Stmt.seq
              (Stmt.drawn
                [(false, SOper.mk (some 69) none (SOp.fld 0 (Operand.tmp 9))),
                  (false, SOper.mk (some 70) none (SOp.load false 1 (Operand.tmp 69))),
                  (false, SOper.mk (some 71) none (SOp.mv (Operand.tmp 10))),
                  (false, SOper.mk (some 72) none (SOp.idxA 2 6 (Operand.tmp 5) (Operand.tmp 70))),
                  (false, SOper.mk (some 73) none (SOp.idxA 6 1 (Operand.tmp 72) (Operand.tmp 71))),
                  (false, SOper.mk (some 74) none (SOp.load false 1 (Operand.tmp 73))),
                  (false, SOper.mk (some 75) none (SOp.mv (Operand.tmp 11))),
                  (false, SOper.mk (some 76) none (SOp.fn (Fk.bits BinOp.or) [Operand.tmp 74, Operand.tmp 75])),
                  (false, SOper.mk (some 77) none (SOp.idxA 2 6 (Operand.tmp 5) (Operand.tmp 70))),
                  (false, SOper.mk (some 78) none (SOp.idxA 6 1 (Operand.tmp 77) (Operand.tmp 71))),
                  (false, SOper.mk none none (SOp.store 1 (Operand.tmp 78) (Operand.tmp 76)))]
                [2, 3, 5, 6, 9, 19, 20, 21, 27, 28])
              (Stmt.region [SOper.mk (some 7) none (SOp.mv (Operand.const (Value.bool true)))]
                [2, 3, 5, 6, 7, 9, 19, 20, 21, 27, 28]))
            Stmt.skip)))))
def S178_6 : Stmt :=
  Stmt.region
  [SOper.mk (some 79) none (SOp.ibin BinOp.add (Operand.tmp 28) (Operand.const (Value.int IntKind.i64 1))),
    SOper.mk (some 28) none (SOp.mv (Operand.tmp 79))]
  [2, 3, 5, 6, 7, 9, 19, 20, 21, 27, 28]
def S178_7 : Stmt :=
  Stmt.seq
  (Stmt.region [SOper.mk (some 29) none (SOp.ibin BinOp.lss (Operand.tmp 28) (Operand.tmp 27))]
    [2, 3, 5, 6, 7, 9, 19, 20, 21, 27, 28, 29])
  (Stmt.seq (Stmt.cond (Operand.tmp 29) Stmt.skip (Stmt.exit 4))
    (Stmt.join S178_5 S178_6 [5, 7] [2, 3, 6, 9, 19, 20, 21, 27, 28]))
def S178_8 : Stmt :=
  Stmt.seq
  (Stmt.region [SOper.mk (some 22) none (SOp.ibin BinOp.lss (Operand.tmp 21) (Operand.tmp 20))]
    [2, 3, 5, 6, 7, 19, 20, 21, 22])
  (Stmt.seq (Stmt.cond (Operand.tmp 22) Stmt.skip (Stmt.exit 2))
    (Stmt.seq
      (Stmt.block 3
        (Stmt.seq
          (Stmt.region
            [SOper.mk (some 23) none (SOp.idx 2 (Operand.tmp 19) (Operand.tmp 21)),
              SOper.mk (some 24) none (SOp.load true 2 (Operand.tmp 23)),
              SOper.mk (some 9) none
                (SOp.alloc true 37 (Value.agg (Array.mk [Value.int IntKind.i64 0, Value.slice none 0 0]))),
              SOper.mk none none (SOp.store 2 (Operand.tmp 9) (Operand.tmp 24))]
            [2, 3, 5, 6, 7, 9, 19, 20, 21])
          (Stmt.seq
            (Stmt.region
              [SOper.mk (some 25) none (SOp.load false 1 (Operand.tmp 3)),
                SOper.mk (some 26) none (SOp.len false (Operand.tmp 25)),
                SOper.mk (some 27) none (SOp.ibin BinOp.add (Operand.tmp 26) (Operand.const (Value.int IntKind.i64 1))),
                SOper.mk (some 28) none (SOp.mv (Operand.const (Value.int IntKind.i64 0)))]
              [2, 3, 5, 6, 7, 9, 19, 20, 21, 27, 28])
            (Stmt.block 4 (Stmt.loop S178_7 [5, 7, 28] [2, 3, 6, 9, 19, 20, 21, 27])))))
      (Stmt.region
        [SOper.mk (some 80) none (SOp.ibin BinOp.add (Operand.tmp 21) (Operand.const (Value.int IntKind.i64 1))),
          SOper.mk (some 21) none (SOp.mv (Operand.tmp 80))]
        [2, 3, 5, 6, 7, 19, 20, 21])))
def S178_9 : Stmt :=
  Stmt.seq
  (Stmt.seq (Stmt.region [SOper.mk (some 17) none (SOp.mv (Operand.tmp 7))] [2, 3, 5, 6, 17])
    (Stmt.cond (Operand.tmp 17) Stmt.skip (Stmt.exit 0)))
  (Stmt.block 1
    (Stmt.seq (Stmt.region [SOper.mk (some 7) none (SOp.mv (Operand.const (Value.bool false)))] [2, 3, 5, 6, 7])
      (Stmt.seq
        (Stmt.region
          [SOper.mk (some 18) none (SOp.fld 3 (Operand.tmp 2)),
            SOper.mk (some 19) none (SOp.load false 1 (Operand.tmp 18)),
            SOper.mk (some 20) none (SOp.len false (Operand.tmp 19)),
            SOper.mk (some 21) none (SOp.mv (Operand.const (Value.int IntKind.i64 0)))]
          [2, 3, 5, 6, 7, 19, 20, 21])
        (Stmt.block 2 (Stmt.loop S178_8 [5, 7, 21] [2, 3, 6, 19, 20])))))
def S178_0 : Stmt :=
  Stmt.seq
  (Stmt.region
    [SOper.mk (some 2) none (SOp.box true 57 (Operand.tmp 0)),
      SOper.mk (some 3) none (SOp.box false 29 (Operand.tmp 1)),
      SOper.mk (some 4) none (SOp.mv (Operand.const (Value.bool false)))]
    [2, 3])
  (Stmt.seq
    (Stmt.region
      [SOper.mk (some 5) none
          (SOp.alloc false 278
            (Value.agg
              (Array.mk
                [Value.int IntKind.u64 0, Value.int IntKind.u64 0, Value.int IntKind.u64 0, Value.int IntKind.u64 0,
                  Value.int IntKind.u64 0, Value.int IntKind.u64 0, Value.int IntKind.u64 0, Value.int IntKind.u64 0,
                  Value.int IntKind.u64 0, Value.int IntKind.u64 0, Value.int IntKind.u64 0,
                  Value.int IntKind.u64 0])))]
      [2, 3, 5])
    (Stmt.seq
      (Stmt.region
        [SOper.mk (some 16) none (SOp.mkFunc 204 [Operand.tmp 5, Operand.tmp 3]),
          SOper.mk (some 6) none (SOp.mv (Operand.tmp 16))]
        [2, 3, 5, 6])
      (Stmt.seq
        (Stmt.seq (Stmt.region [SOper.mk (some 7) none (SOp.mv (Operand.const (Value.bool true)))] [2, 3, 5, 6, 7])
          (Stmt.block 0 (Stmt.loop S178_9 [5, 7] [2, 3, 6])))
        (Stmt.seq
          (Stmt.region
            [SOper.mk (some 81) none (SOp.idxA 2 6 (Operand.tmp 5) (Operand.const (Value.int IntKind.i64 0))),
              SOper.mk (some 82) none (SOp.idxA 6 1 (Operand.tmp 81) (Operand.const (Value.int IntKind.i64 0))),
              SOper.mk (some 83) none (SOp.load false 1 (Operand.tmp 82)),
              SOper.mk (some 84) none (SOp.load false 1 (Operand.tmp 3)),
              SOper.mk (some 85) none (SOp.len false (Operand.tmp 84)),
              SOper.mk (some 86) none (SOp.ishift BinOp.shr (Operand.tmp 83) (Operand.tmp 85)),
              SOper.mk (some 87) none
                (SOp.fn (Fk.bits BinOp.and) [Operand.tmp 86, Operand.const (Value.int IntKind.u64 1)]),
              SOper.mk (some 88) none (SOp.ibin BinOp.eql (Operand.tmp 87) (Operand.const (Value.int IntKind.u64 1))),
              SOper.mk (some 4) none (SOp.mv (Operand.tmp 88))]
            [4])
          Stmt.ret))))
def S178 : FnS := ⟨89, [(4, none)], S178_0⟩
theorem tr178 : trFn Try.prog 178 [2, 9, 13] [[2, 3], [2, 3, 5], [2, 3, 5, 6], [2, 3, 5, 6, 7], [5, 7], [2, 3, 6], [2, 3, 5, 6, 17], [2, 3, 5, 6, 7], [2, 3, 5, 6, 7, 19, 20, 21], [5, 7, 21], [2, 3, 6, 19, 20], [2, 3, 5, 6, 7, 19, 20, 21, 22], [2, 3, 5, 6, 7, 9, 19, 20, 21], [2, 3, 5, 6, 7, 9, 19, 20, 21, 27, 28], [5, 7, 28], [2, 3, 6, 9, 19, 20, 21, 27], [2, 3, 5, 6, 7, 9, 19, 20, 21, 27, 28, 29], [5, 7], [2, 3, 6, 9, 19, 20, 21, 27, 28], [2, 3, 5, 6, 7, 9, 10, 19, 20, 21, 27, 28], [2, 3, 5, 6, 7, 9, 10, 11, 19, 20, 21, 27, 28], [2, 3, 5, 6, 7, 9, 10, 11, 19, 20, 21, 27, 28, 34, 35, 36], [11, 36], [2, 3, 5, 6, 7, 9, 10, 19, 20, 21, 27, 28, 34, 35], [2, 3, 5, 6, 7, 9, 10, 11, 19, 20, 21, 27, 28, 34, 35, 36, 37], [2, 3, 5, 6, 7, 9, 10, 11, 13, 19, 20, 21, 27, 28, 34, 35, 36], [2, 3, 5, 6, 7, 9, 10, 11, 13, 14, 19, 20, 21, 27, 28, 34, 35, 36], [2, 3, 5, 6, 7, 9, 10, 11, 13, 14, 15, 19, 20, 21, 27, 28, 34, 35, 36], [14, 15], [2, 3, 5, 6, 7, 9, 10, 11, 13, 19, 20, 21, 27, 28, 34, 35, 36], [2, 3, 5, 6, 7, 9, 10, 11, 13, 14, 15, 19, 20, 21, 27, 28, 34, 35, 36, 44], [14], [2, 3, 5, 6, 7, 9, 10, 11, 13, 15, 19, 20, 21, 27, 28, 34, 35, 36], [2, 3, 5, 6, 7, 9, 10, 11, 13, 14, 15, 19, 20, 21, 27, 28, 34, 35, 36, 51], [2, 3, 5, 6, 7, 9, 10, 11, 13, 14, 15, 19, 20, 21, 27, 28, 34, 35, 36], [2, 3, 5, 6, 7, 9, 10, 11, 13, 14, 15, 19, 20, 21, 27, 28, 34, 35, 36], [2, 3, 5, 6, 7, 9, 10, 11, 19, 20, 21, 27, 28, 34, 35, 36], [2, 3, 5, 6, 7, 9, 10, 11, 19, 20, 21, 27, 28, 34, 35, 36], [2, 3, 5, 6, 7, 9, 10, 11, 19, 20, 21, 27, 28, 68], [2, 3, 5, 6, 9, 19, 20, 21, 27, 28], [0, 1, 2, 3, 4, 5, 6, 7, 8, 9, 10], [], [], [0], [], [0, 1], [0, 1, 2, 3], [0, 1, 2, 3, 4], [], [0, 1, 2, 3, 4, 5, 6], [0, 1], [0, 1, 2, 3, 4, 5, 6, 7, 8], [0, 1, 2, 3, 4, 5, 6, 7, 8, 9], [2, 3, 5, 6, 7, 9, 19, 20, 21, 27, 28], [2, 3, 5, 6, 7, 9, 19, 20, 21, 27, 28], [2, 3, 5, 6, 7, 19, 20, 21], [4]] = some S178 := by kernel_rfl
end Go.Proofs.Ytniobbepliknmaa.V
/- The text of parlance/guess.accepts$1 as a statement (slots: 0 s, 1 i, 4 s, 5 i); no condition. -/
namespace Go.Proofs.Ytniobbepliknmaa.V
open Go
def S204_0 : Stmt :=
  Stmt.seq
  (Stmt.region
    [SOper.mk (some 4) none (SOp.box true 39 (Operand.tmp 0)),
      SOper.mk (some 6) none (SOp.mv (Operand.const (Value.int IntKind.u64 0)))]
    [1, 2, 3, 4])
  (Stmt.seq
    (Stmt.seq
      (Stmt.region
        [SOper.mk (some 7) none (SOp.fld 0 (Operand.tmp 4)), SOper.mk (some 8) none (SOp.load false 1 (Operand.tmp 7)),
          SOper.mk (some 9) none (SOp.un UnOp.not (Operand.tmp 8))]
        [1, 2, 3, 4, 9])
      (Stmt.cond (Operand.tmp 9)
        (Stmt.seq
          (Stmt.region
            [SOper.mk (some 10) none (SOp.fld 1 (Operand.tmp 4)),
              SOper.mk (some 11) none (SOp.load false 1 (Operand.tmp 10)),
              SOper.mk (some 12) none (SOp.mv (Operand.tmp 1)),
              SOper.mk (some 13) none (SOp.idxA 2 6 (Operand.tmp 2) (Operand.tmp 11)),
              SOper.mk (some 14) none (SOp.idxA 6 1 (Operand.tmp 13) (Operand.tmp 12)),
              SOper.mk (some 15) none (SOp.load false 1 (Operand.tmp 14)),
              SOper.mk (some 6) none (SOp.mv (Operand.tmp 15))]
            [6])
          Stmt.ret)
        Stmt.skip))
    (Stmt.seq
      (Stmt.seq
        (Stmt.quiet
          [SOper.mk (some 16) none (SOp.mv (Operand.tmp 1)), SOper.mk (some 17) none (SOp.load false 1 (Operand.tmp 3)),
            SOper.mk (some 18) none (SOp.len false (Operand.tmp 17)),
            SOper.mk (some 19) none (SOp.ibin BinOp.lss (Operand.tmp 16) (Operand.tmp 18)),
            SOper.mk (some 20) none (SOp.mv (Operand.tmp 19)),
            SOper.mk (some 21) (some (20, true)) (SOp.load false 1 (Operand.tmp 3)),
            SOper.mk (some 22) (some (20, true)) (SOp.mv (Operand.tmp 1)),
            SOper.mk (some 23) (some (20, true)) (SOp.idx 1 (Operand.tmp 21) (Operand.tmp 22)),
            SOper.mk (some 24) (some (20, true)) (SOp.load false 1 (Operand.tmp 23)),
            SOper.mk (some 25) (some (20, true)) (SOp.fld 1 (Operand.tmp 4)),
            SOper.mk (some 26) (some (20, true)) (SOp.load false 1 (Operand.tmp 25)),
            SOper.mk (some 27) (some (20, true)) (SOp.ibin BinOp.eql (Operand.tmp 24) (Operand.tmp 26)),
            SOper.mk (some 28) none (SOp.pick (Operand.tmp 20) (Operand.tmp 27) (Operand.const (Value.bool false)))]
          [1, 28])
        (Stmt.cond (Operand.tmp 28)
          (Stmt.seq
            (Stmt.region
              [SOper.mk (some 29) none (SOp.mv (Operand.tmp 1)),
                SOper.mk (some 30) none (SOp.ibin BinOp.add (Operand.tmp 29) (Operand.const (Value.int IntKind.i64 1))),
                SOper.mk (some 31) none
                  (SOp.ishift BinOp.shl (Operand.const (Value.int IntKind.u64 1)) (Operand.tmp 30)),
                SOper.mk (some 6) none (SOp.mv (Operand.tmp 31))]
              [6])
            Stmt.ret)
          Stmt.skip))
      (Stmt.seq (Stmt.region [SOper.mk (some 6) none (SOp.mv (Operand.const (Value.int IntKind.u64 0)))] [6])
        Stmt.ret)))
def S204 : FnS := ⟨32, [(6, none)], S204_0⟩
theorem tr204 : trFn Try.prog 204 [4] [[1, 2, 3, 4], [1, 2, 3, 4, 9], [6], [1, 28], [6], [6]] = some S204 := by kernel_rfl
end Go.Proofs.Ytniobbepliknmaa.V
/- Whether a small grammar has a word: guess.accepts; no condition. -/
namespace Go.Proofs.Ytniobbepliknmaa.V
open Go
set_option linter.unusedVariables false
set_option linter.unusedSimpArgs false
attribute [local go_sem] e_seq e_region e_quiet e_join e_loop e_cond e_block e_exit e_ret e_skip e_fin e_kseq e_snrm e_sret e_sex e_bnrm e_bret e_bex e_rnrm e_rret e_res e_condC e_nil e_g e_mv g_mv e_pick g_pick pickC_eq e_ibin g_ibin ibinC_eq e_sbin g_sbin e_beq g_beq beqC_eq e_nilq g_nilq nilqC_sl nilqC_pt nilqC_mp e_un g_un unC_not unC_neg e_conv g_conv convC_eq e_fld g_fld fldC_ref fldC_ptr e_nilCheck g_nilCheck nilCheckC_ref nilCheckC_ptr nilCheckC_fun e_field g_field fieldC_eq e_len g_len lenC_sl lenC_str e_extract g_extract extractC_eq e_mkFunc e_build g_build e_idiv g_idiv idivC_eq e_ishift g_ishift ishiftC_eq e_idx g_idx e_idxA g_idxA e_load g_load loadC_ref loadC_ptr loadB_eq e_slc g_slc e_box boxC_loc boxC_esc e_alloc allocC_loc allocC_esc e_buildS e_store storeC_ref storeC_ptr storeB_eq e_append e_appz e_mk mkC_eq e_call callC_eq e_fn g_fn fnC_eq fnV_min' fnV_max' fnV_rune' e_q g_q e_a e_n g_call g_box g_alloc g_buildS g_store g_append g_mk g_a g_n g_dead e_dead e_callK e_drawn e_tree e_finJ e_tk e_tfin e_tno e_nbt_q e_nbt_qn e_nbt_a e_nbt_an e_nbt_fin e_early_nil e_early_t e_early_f e_nob_nil e_nob_none e_nob_some isBox_dead isBox_v isBox_ref e_dnil e_dk e_ek e_finB vcOps_vc1 e_dcons e_tq e_ekt e_tearly e_talt e_dearly look_nil look_c proj_nil proj_c looks_nil looks_c zip_nil zip_c val_tmp val_const val_func slv_v slv_box slv_ref slot_tmp slot_const slot_func slotL_v slotL_box slotL_ref put_some put_none updBox_c boxSet_box gd_eq slotVals_nil slotVals_c slotVals_b boxV_box boxOn_box slotsOn_nil slotsOn_c slotsOn_b resV_one resV_two vals_nil vals_c allOn_nil allOn_c partOn_nil partOn_c partVals_nil partVals_c fits_nil fits_c fillL_nil fillL_c mkv_one mkv_agg cellsV_agg cellsV_int cellsV_bool cellsV_slice cellsV_string cellsV_pointer cellsV_func cellsV_nilf cellsV_map one'_nil one'_c oc_int oc_bool oc_slice oc_string oc_pointer oc_func oc_nilf oc_map setC_eq iv_add iv_sub iv_mul iv_eql iv_neq iv_lss iv_leq iv_gtr iv_geq iok_add iok_sub iok_mul iok_eql iok_neq iok_lss iok_leq iok_gtr iok_geq pickV_bool args0_nil args0_c bnd_none bnd_some imp_bt imp_bf imp_ebt imp_ebf imp_eb1 imp_np imp_pp beq_tt beq_tf beq_ft beq_ff cond_or cond_and e_round e_meet Int.le_refl Int.toNat_zero decide_true decide_false Bool.or_false Bool.false_or Bool.true_or Bool.or_true Bool.and_false Bool.false_and Bool.bne_false Bool.bne_true beq_iff_eq Int.cast_ofNat_Int not_false_eq_true not_true_eq_false false_and and_false false_implies true_implies true_and and_true Bool.true_and Bool.and_true Bool.not_true Bool.not_false forall_const implies_true List.take_zero List.drop_zero List.take_succ_cons List.drop_succ_cons List.take_nil List.drop_nil List.length_cons List.length_nil List.nil_append List.append_nil List.cons_append Int.toNat_natCast decide_eq_true_eq decide_eq_false_iff_not cond_true cond_false and_self List.getElem?_cons_zero List.getElem?_cons_succ List.set_cons_zero List.set_cons_succ Option.some.injEq exists_eq_left' Nat.zero_add Nat.add_zero Nat.mul_one imp_self true_or or_true or_false false_or Bool.or_eq_true Bool.or_eq_false_iff Bool.and_eq_true Bool.and_eq_false_iff Bool.not_eq_true' Bool.not_eq_false'

/-- the bits of two rows of six -/
def Ea (xs : List U64) (a : Int) (i j : Nat) : Prop := 0 ≤ a ∧ a < 2 ∧ i < 6 ∧ ∃ x, xs[a.toNat * 6 + i]? = some x ∧ x.n.testBit j = true
structure SixOk (xs : List U64) : Prop where
  len : xs.length = 12
  small : ∀ x ∈ xs, x.n < 4294967296
theorem ea_at {xs : List U64} (h : SixOk xs) {a : Int} {i j : Nat} (h0 : 0 ≤ a) (h1 : a < 2) (hi : i < 6) : Ea xs a i j ↔ (xs[a.toNat * 6 + i]'(by rw [h.len]; omega)).n.testBit j = true := by
  unfold Ea
  rw [List.getElem?_eq_getElem (by rw [h.len]; omega)]
  simp [h0, h1, hi]
theorem SixOk.set {xs : List U64} (h : SixOk xs) {k z : Nat} (hz : z < 4294967296) : SixOk (xs.set k ⟨z⟩) := by
  refine ⟨by simpa using h.len, fun x hx => ?_⟩
  rcases List.mem_or_eq_of_mem_set hx with q | q
  · exact h.small x q
  · rw [q]; exact hz
theorem ea_set {xs : List U64} (h : SixOk xs) {a : Nat} {i z : Nat} (ha : a < 2) (hi : i < 6) {a' : Int} {i' j : Nat} :
    Ea (xs.set (a * 6 + i) ⟨(xs[a * 6 + i]'(by rw [h.len]; omega)).n ||| z⟩) a' i' j ↔ Ea xs a' i' j ∨ (a' = a ∧ i' = i ∧ z.testBit j = true) := by
  have hl : a * 6 + i < xs.length := by rw [h.len]; omega
  constructor
  · rintro ⟨h0, h1, h2, x, h3, h4⟩
    by_cases e : a'.toNat * 6 + i' = a * 6 + i
    · have e1 : a' = a := by omega
      have e2 : i' = i := by omega
      rw [e, List.getElem?_set_self hl, Option.some.injEq] at h3
      subst h3
      simp only [Nat.testBit_or, Bool.or_eq_true] at h4
      rcases h4 with h4 | h4
      · exact .inl ⟨h0, h1, h2, _, by rw [e]; exact List.getElem?_eq_getElem hl, h4⟩
      · exact .inr ⟨e1, e2, h4⟩
    · rw [List.getElem?_set_ne (fun q => e q.symm)] at h3
      exact .inl ⟨h0, h1, h2, x, h3, h4⟩
  · rintro (⟨h0, h1, h2, x, h3, h4⟩ | ⟨rfl, rfl, h4⟩)
    · by_cases e : a'.toNat * 6 + i' = a * 6 + i
      · refine ⟨h0, h1, h2, _, by rw [e]; exact List.getElem?_set_self hl, ?_⟩
        rw [e, List.getElem?_eq_getElem hl, Option.some.injEq] at h3
        subst h3
        simp [Nat.testBit_or, h4]
      · exact ⟨h0, h1, h2, x, by rw [List.getElem?_set_ne (fun q => e q.symm)]; exact h3, h4⟩
    · refine ⟨by omega, by omega, hi, _, by rw [show (a : Int).toNat = a by omega]; exact List.getElem?_set_self hl, ?_⟩
      simp [Nat.testBit_or, h4]
theorem s_idxA {P : Program} {Γr : Ctx} {d : Option Nat} {r : List SOper} {φ : Fr} {Γ : Ctx} {K : Fr → Ctx → Prop} {len sz b o : Nat} {k : IntKind} {j : Int} (h0 : 0 ≤ j) (h1 : j < len)
    (hk : vcOps P Γr r (put φ d (.v true (.pointer (some ⟨b, o + j.toNat * sz, none⟩)))) Γ K) : idxAC P Γr true d r φ Γ K len sz (.v true (.pointer (some ⟨b, o, none⟩))) true (true, .int k j) := ⟨fun _ => ⟨rfl, rfl, h0, h1⟩, hk⟩
theorem ga_after {Γr : Ctx} {be bw : Nat} {T T2 : TypeId} {xs : List U64} {W : Option Addr} {d : Nat} {w : List Int} (hE : lk Γr be (.cells (xs.map Sc.enc).toArray T (0, 0))) (hX : SixOk xs) (hb : lk Γr bw (.cells [Value.slice W w.length d].toArray T2 (0, 0))) (hw : SlOk (lk Γr) W d w) (hl : w.length ≤ 5)
    (y : Sy) (hy : y.t = false → 0 ≤ y.n ∧ y.n < 2) (i : Nat) (hi : i ≤ w.length) :
    Ret Try.prog 204 [.agg #[.bool y.t, .int .i64 y.n], .int .i64 i, .pointer (some ⟨be, 0, none⟩), .pointer (some ⟨bw, 0, none⟩)] Γr [] (fun v Γ => Γ = [] ∧ ∃ z : Nat, v = .int .u64 z ∧ z < 4294967296 ∧ ∀ j, z.testBit j = true ↔ Stp (Ea xs) w y i j) := by
  generalize hR : (fun (v : Value) (Γ : Ctx) => Γ = [] ∧ _) = R
  refine ret_of_vc tr204 (Nat.le_of_ble_eq_true rfl) ?_
  simp -implicitDefEqProofs only [S204, S204_0, go_sem, Nat.reduceBEq, Nat.reduceAdd, Nat.reduceSub, Nat.reduceMul, Nat.reduceLeDiff, reduceCtorEq, ↓reduceIte, Int.reduceLT, Int.reduceLE, Int.reduceEq, Int.reduceNe]
  intro b0
  refine ⟨fun ht => ?_, fun ht => ?_⟩
  · obtain ⟨hy0, hy1⟩ := hy ht
    have hk : y.n.toNat * 6 + i < xs.length := by rw [hX.len]; omega
    refine s_idxA hy0 (by omega) ?_
    simp -implicitDefEqProofs only [go_sem, Nat.reduceBEq, Nat.reduceAdd, Nat.reduceSub, Nat.reduceMul, Nat.reduceLeDiff, reduceCtorEq, ↓reduceIte, Int.reduceLT, Int.reduceLE, Int.reduceEq, Int.reduceNe]
    refine s_idxA (by omega) (by omega) ?_
    simp -implicitDefEqProofs only [go_sem, Nat.reduceBEq, Nat.reduceAdd, Nat.reduceSub, Nat.reduceMul, Nat.reduceLeDiff, reduceCtorEq, ↓reduceIte, Int.reduceLT, Int.reduceLE, Int.reduceEq, Int.reduceNe]
    have hcell : Cells ([] ++ Γr) be (y.n.toNat * 6 + i) [Sc.enc xs[y.n.toNat * 6 + i]] := Cells.lk (lk_r [] Γr _ _ hE) fun j hj => by
      have : j = 0 := by simp at hj; exact hj
      subst this
      simp [hk]
    refine s_ld0 hcell (by simp) (by simp) ?_
    simp -implicitDefEqProofs only [Sc.enc, go_sem, Nat.reduceBEq, Nat.reduceAdd, Nat.reduceSub, Nat.reduceMul, Nat.reduceLeDiff, reduceCtorEq, ↓reduceIte, Int.reduceLT, Int.reduceLE, Int.reduceEq, Int.reduceNe]
    refine Up.here ?_
    subst hR
    refine ⟨rfl, _, rfl, hX.small _ (List.getElem_mem hk), fun j => ?_⟩
    simp only [Stp, ht]
    exact (ea_at hX hy0 hy1 (by omega)).symm
  · refine s_ld (o := 0) (j := 0) (cells_lk (lk_r _ _ _ _ hb)) (by simp) (by simp) ?_
    by_cases hil : i < w.length
    · have e1 : decide ((i : Int) < (w.length : Int)) = true := by simpa using hil
      simp -implicitDefEqProofs only [e1, go_sem, Nat.reduceBEq, Nat.reduceAdd, Nat.reduceSub, Nat.reduceMul, Nat.reduceLeDiff, reduceCtorEq, ↓reduceIte, Int.reduceLT, Int.reduceLE, Int.reduceEq, Int.reduceNe]
      refine s_ld (o := 0) (j := 0) (cells_lk (lk_r _ _ _ _ hb)) (by simp) (by simp) ?_
      simp -implicitDefEqProofs only [go_sem, Nat.reduceBEq, Nat.reduceAdd, Nat.reduceSub, Nat.reduceMul, Nat.reduceLeDiff, reduceCtorEq, ↓reduceIte, Int.reduceLT, Int.reduceLE, Int.reduceEq, Int.reduceNe]
      obtain ⟨b1, o1, hA1, hc1⟩ := hw.int hil
      refine s_idx hA1 (by omega) (by omega) ?_
      simp -implicitDefEqProofs only [go_sem, Nat.reduceBEq, Nat.reduceAdd, Nat.reduceSub, Nat.reduceMul, Nat.reduceLeDiff, reduceCtorEq, ↓reduceIte, Int.reduceLT, Int.reduceLE, Int.reduceEq, Int.reduceNe]
      refine s_ld0 (hc1 _ (lk_r _ _)) (by simp) (by simp) ?_
      have hp : 2 ^ (i + 1) < 4294967296 := Nat.pow_lt_pow_right (a := 2) (n := 32) (by omega) (by omega)
      have hsh : ishiftV .shl .u64 1 ((i : Int) + 1) = .int .u64 ((2 ^ (i + 1) : Nat) : Int) := bit_shl uns64 (i := i + 1) (by omega)
      simp -implicitDefEqProofs only [go_sem, Nat.reduceBEq, Nat.reduceAdd, Nat.reduceSub, Nat.reduceMul, Nat.reduceLeDiff, reduceCtorEq, ↓reduceIte, Int.reduceLT, Int.reduceLE, Int.reduceEq, Int.reduceNe]
      simp (disch := omega) only [wrap_id]
      refine ⟨fun heq => ?_, fun hne => Up.here ?_⟩
      · simp -implicitDefEqProofs only [hsh, go_sem, Nat.reduceBEq, Nat.reduceAdd, Nat.reduceSub, Nat.reduceMul, Nat.reduceLeDiff, reduceCtorEq, ↓reduceIte, Int.reduceLT, Int.reduceLE, Int.reduceEq, Int.reduceNe]
        refine ⟨by omega, Up.here ?_⟩
        subst hR
        refine ⟨rfl, _, rfl, hp, fun j => ?_⟩
        rw [Nat.testBit_two_pow]
        simp only [Stp, ht, if_true, List.getElem?_eq_getElem hil, heq, decide_eq_true_eq, true_and]
        exact ⟨fun h => h.symm, fun h => h.symm⟩
      · subst hR
        refine ⟨rfl, 0, rfl, by omega, fun j => ?_⟩
        simp [Stp, ht, List.getElem?_eq_getElem hil, hne]
    · have e1 : decide ((i : Int) < (w.length : Int)) = false := by simpa using hil
      simp -implicitDefEqProofs only [e1, go_sem, Nat.reduceBEq, Nat.reduceAdd, Nat.reduceSub, Nat.reduceMul, Nat.reduceLeDiff, reduceCtorEq, ↓reduceIte, Int.reduceLT, Int.reduceLE, Int.reduceEq, Int.reduceNe]
      refine s_ldg0 (cs := [.slice none 0 0]) (by simp) (by simp) (by simp) (by simp) ?_
      simp -implicitDefEqProofs only [go_sem, Nat.reduceBEq, Nat.reduceAdd, Nat.reduceSub, Nat.reduceMul, Nat.reduceLeDiff, reduceCtorEq, ↓reduceIte, Int.reduceLT, Int.reduceLE, Int.reduceEq, Int.reduceNe]
      refine s_idxg (b := 0) (o := 0) (by simp) ?_
      simp -implicitDefEqProofs only [go_sem, Nat.reduceBEq, Nat.reduceAdd, Nat.reduceSub, Nat.reduceMul, Nat.reduceLeDiff, reduceCtorEq, ↓reduceIte, Int.reduceLT, Int.reduceLE, Int.reduceEq, Int.reduceNe]
      refine s_ldg0 (cs := [.int .i64 0]) (by simp) (by simp) (by simp) (by simp) ?_
      simp -implicitDefEqProofs only [go_sem, Nat.reduceBEq, Nat.reduceAdd, Nat.reduceSub, Nat.reduceMul, Nat.reduceLeDiff, reduceCtorEq, ↓reduceIte, Int.reduceLT, Int.reduceLE, Int.reduceEq, Int.reduceNe]
      refine Up.here ?_
      subst hR
      refine ⟨rfl, 0, rfl, by omega, fun j => ?_⟩
      simp [Stp, ht, List.getElem?_eq_none (show w.length ≤ i by omega)]
theorem ea_none (a : Int) (i j : Nat) : ¬ Ea (List.replicate 12 ⟨0⟩) a i j := by
  rintro ⟨_, _, _, x, h1, h2⟩
  rw [List.getElem?_replicate] at h1
  split at h1
  · cases h1; simp at h2
  · cases h1
set_option maxHeartbeats 4000000 in
theorem guess_accepts {Γr : Ctx} {ts ns st : Int} {rs : List Ru} {A W : Option Addr} {c d : Nat} {w : List Int} (hx : SlOk (lk Γr) A c rs) (hw : SlOk (lk Γr) W d w) (V : RsOk rs 2) (hl : w.length ≤ 5) :
    Ret Try.prog 178 [.agg #[.int .i64 ts, .int .i64 ns, .int .i64 st, .slice A rs.length c], .slice W w.length d] Γr [] (fun v Γ => Γ = [] ∧ ∃ q : Bool, v = .bool q ∧ (q = true ↔ DerN id rs 0 w)) := by
  generalize hR : (fun (v : Value) (Γ : Ctx) => Γ = [] ∧ _) = R
  refine ret_of_vc tr178 (Nat.le_of_ble_eq_true rfl) ?_
  have hvl := V.len
  obtain ⟨m, hm⟩ : ∃ m : Nat, w.length + 1 = m := ⟨_, rfl⟩
  simp -implicitDefEqProofs only [S178, S178_0, go_sem, Nat.reduceBEq, Nat.reduceAdd, Nat.reduceSub, Nat.reduceMul, Nat.reduceLeDiff, reduceCtorEq, ↓reduceIte, Int.reduceLT, Int.reduceLE, Int.reduceEq, Int.reduceNe]
  intro b0 bw be
  have hA0 : Arr (one be (.cells [Value.int IntKind.u64 0, Value.int IntKind.u64 0, Value.int IntKind.u64 0, Value.int IntKind.u64 0, Value.int IntKind.u64 0, Value.int IntKind.u64 0, Value.int IntKind.u64 0, Value.int IntKind.u64 0, Value.int IntKind.u64 0, Value.int IntKind.u64 0, Value.int IntKind.u64 0, Value.int IntKind.u64 0].toArray 278)) be 278 (List.replicate 12 (⟨0⟩ : U64)) := one_self _ _
  have hbw : (one bw (.cells [Value.slice W w.length d].toArray 29 (0, 0))) bw = some (.cells [Value.slice W w.length d].toArray 29 (0, 0)) := one_self _ _
  generalize one bw _ = gw at *
  obtain ⟨N, hN⟩ : ∃ N : Nat, (trip 2 6).length = N := ⟨_, rfl⟩
  have hcl : ∀ E, cntE 2 6 E ≤ N := fun E => by rw [← hN]; exact cntE_le
  refine s_loop (fun f vs Γ => ∃ (more : Bool) (ge : PH) (xs : List U64), vs = [.v true (.pointer (some ⟨be, 0, none⟩)), .v true (.bool more)] ∧ Γ = [ge, gw] ∧ f = 2 * (N - cntE 2 6 (Ea xs)) + more.toNat ∧ Arr ge be 278 xs ∧ SixOk xs ∧ (∀ a i j, Ea xs a i j → Prt rs w a i j) ∧ (more = false → ClosedK (Ea xs) w rs m)) _
    (Up.here ⟨true, _, _, rfl, rfl, rfl, hA0, ⟨by simp, by simp⟩, fun a i j h => absurd h (ea_none a i j), by simp⟩) ?_
  clear hA0
  rintro f vs Γ ⟨more, ge, xs, rfl, rfl, hf, hA, hX, hS, hC⟩
  simp -implicitDefEqProofs only [S178_9, go_sem, Nat.reduceBEq, Nat.reduceAdd, Nat.reduceSub, Nat.reduceMul, Nat.reduceLeDiff, reduceCtorEq, ↓reduceIte, Int.reduceLT, Int.reduceLE, Int.reduceEq, Int.reduceNe]
  refine ⟨fun hmt => ?_, fun hmf => ?_⟩
  · subst hmt
    refine s_loop (fun f2 vs Γ => ∃ (more : Bool) (k : Nat) (ge : PH) (xs2 : List U64), vs = [.v true (.pointer (some ⟨be, 0, none⟩)), .v true (.bool more), .v true (.int .i64 k)] ∧ Γ = [ge, gw] ∧ k + f2 = rs.length ∧ Arr ge be 278 xs2 ∧ SixOk xs2 ∧ (∀ a i j, Ea xs2 a i j → Prt rs w a i j) ∧ cntE 2 6 (Ea xs) ≤ cntE 2 6 (Ea xs2) ∧ (more = true → cntE 2 6 (Ea xs) < cntE 2 6 (Ea xs2)) ∧ (more = false → xs2 = xs ∧ ClosedK (Ea xs) w (rs.take k) m)) rs.length
      (Up.here ⟨false, 0, ge, xs, rfl, rfl, by omega, hA, hX, hS, Nat.le_refl _, by simp, fun _ => ⟨rfl, by simp [ClosedK]⟩⟩) ?_
    clear hA
    rintro f2 vs Γ ⟨more2, k, ge, xs2, rfl, rfl, hkf, hA, hX2, hS2, hc2, hc3, hC2⟩
    simp -implicitDefEqProofs only [S178_8, go_sem, Nat.reduceBEq, Nat.reduceAdd, Nat.reduceSub, Nat.reduceMul, Nat.reduceLeDiff, reduceCtorEq, ↓reduceIte, Int.reduceLT, Int.reduceLE, Int.reduceEq, Int.reduceNe]
    refine ⟨fun hlt => ?_, fun hge => ?_⟩
    · have hk : k < rs.length := by omega
      have hmem : rs[k] ∈ rs := List.getElem_mem hk
      have hr4 := V.right _ hmem
      have hleft := V.left _ hmem
      have hsym := V.sym _ hmem
      have htk : rs.take (k + 1) = rs.take k ++ [rs[k]] := List.take_succ_eq_append_getElem hk
      obtain ⟨b1, o1, hA2, A3, c3, hr3, hc5⟩ := hx.ru hk
      generalize rs[k] = r at *
      refine s_idx hA2 (by omega) (by omega) ?_
      simp -implicitDefEqProofs only [go_sem, Nat.reduceBEq, Nat.reduceAdd, Nat.reduceSub, Nat.reduceMul, Nat.reduceLeDiff, reduceCtorEq, ↓reduceIte, Int.reduceLT, Int.reduceLE, Int.reduceEq, Int.reduceNe]
      refine s_ld0 (hc5 _ (lk_r _ _)) (by simp) (by simp) ?_
      simp -implicitDefEqProofs only [go_sem, Nat.reduceBEq, Nat.reduceAdd, Nat.reduceSub, Nat.reduceMul, Nat.reduceLeDiff, reduceCtorEq, ↓reduceIte, Int.reduceLT, Int.reduceLE, Int.reduceEq, Int.reduceNe]
      intro b2
      refine s_ld (o := 0) (j := 0) (cells_lk ⟨gw, by simp, hbw⟩) (by simp) (by simp) ?_
      simp -implicitDefEqProofs only [go_sem, Nat.reduceBEq, Nat.reduceAdd, Nat.reduceSub, Nat.reduceMul, Nat.reduceLeDiff, reduceCtorEq, ↓reduceIte, Int.reduceLT, Int.reduceLE, Int.reduceEq, Int.reduceNe]
      simp (disch := omega) only [wrap_id]
      refine s_loop (fun f3 vs Γ => ∃ (more : Bool) (i : Nat) (ge : PH) (xs3 : List U64), vs = [.v true (.pointer (some ⟨be, 0, none⟩)), .v true (.bool more), .v true (.int .i64 i)] ∧ Γ = [ge, gw] ∧ i + f3 = m ∧ Arr ge be 278 xs3 ∧ SixOk xs3 ∧ (∀ a i j, Ea xs3 a i j → Prt rs w a i j) ∧ cntE 2 6 (Ea xs) ≤ cntE 2 6 (Ea xs3) ∧ (more = true → cntE 2 6 (Ea xs) < cntE 2 6 (Ea xs3)) ∧ (more = false → xs3 = xs ∧ ClosedK (Ea xs) w (rs.take k) m ∧ ∀ i', i' < i → ∀ j, Rch (Ea xs) w r.r i' j → Ea xs r.l i' j)) m
        (Up.here ⟨more2, 0, ge, xs2, rfl, rfl, by omega, hA, hX2, hS2, hc2, hc3, fun h => ⟨(hC2 h).1, (hC2 h).2, fun i' h => by omega⟩⟩) ?_
      clear hA hX2 hS2 hc2 hc3 hC2
      rintro f3 vs Γ ⟨more3, i, ge, xs3, rfl, rfl, hif, hA, hX3, hS3, hc3, hc4, hC3⟩
      simp -implicitDefEqProofs only [S178_7, go_sem, Nat.reduceBEq, Nat.reduceAdd, Nat.reduceSub, Nat.reduceMul, Nat.reduceLeDiff, reduceCtorEq, ↓reduceIte, Int.reduceLT, Int.reduceLE, Int.reduceEq, Int.reduceNe]
      refine ⟨fun hlt => ?_, fun hge => ?_⟩
      · have hi : i < m := by omega
        refine s_split ?_
        simp -implicitDefEqProofs only [S178_5, S178_6, bit_shl uns64 (show i < 32 by omega), go_sem, Nat.reduceBEq, Nat.reduceAdd, Nat.reduceSub, Nat.reduceMul, Nat.reduceLeDiff, reduceCtorEq, ↓reduceIte, Int.reduceLT, Int.reduceLE, Int.reduceEq, Int.reduceNe]
        refine ⟨by omega, ?_⟩
        have hp : 2 ^ i < 4294967296 := Nat.pow_lt_pow_right (a := 2) (n := 32) (by omega) (by omega)
        refine s_loop (fun f4 vs Γ => ∃ (z q : Nat), vs = [.v true (.int .u64 z), .v true (.int .i64 q)] ∧ Γ = [ge, gw] ∧ q + f4 = r.r.length ∧ z < 4294967296 ∧ ∀ j, z.testBit j = true ↔ Rch (Ea xs3) w (r.r.take q) i j) r.r.length
          (Up.here ⟨_, 0, rfl, rfl, by omega, hp, fun j => by rw [Nat.testBit_two_pow]; simp [Rch, eq_comm]⟩) ?_
        rintro f4 vs Γ ⟨z, q, rfl, rfl, hqf, hz, hzj⟩
        simp -implicitDefEqProofs only [S178_4, go_sem, Nat.reduceBEq, Nat.reduceAdd, Nat.reduceSub, Nat.reduceMul, Nat.reduceLeDiff, reduceCtorEq, ↓reduceIte, Int.reduceLT, Int.reduceLE, Int.reduceEq, Int.reduceNe]
        refine ⟨fun hlt => ?_, fun hge => ?_⟩
        · have hq : q < r.r.length := by omega
          have hsm : r.r[q] ∈ r.r := List.getElem_mem hq
          have hs := hsym _ hsm
          have htk2 : r.r.take (q + 1) = r.r.take q ++ [r.r[q]] := List.take_succ_eq_append_getElem hq
          obtain ⟨b3, o3, hA4, hc6⟩ := hr3.sy hq
          generalize r.r[q] = y at *
          refine s_idx hA4 (by omega) (by omega) ?_
          simp -implicitDefEqProofs only [go_sem, Nat.reduceBEq, Nat.reduceAdd, Nat.reduceSub, Nat.reduceMul, Nat.reduceLeDiff, reduceCtorEq, ↓reduceIte, Int.reduceLT, Int.reduceLE, Int.reduceEq, Int.reduceNe]
          refine s_ld0 (hc6 _ (lk_r _ _)) (by simp) (by simp) ?_
          simp -implicitDefEqProofs only [go_sem, Nat.reduceBEq, Nat.reduceAdd, Nat.reduceSub, Nat.reduceMul, Nat.reduceLeDiff, reduceCtorEq, ↓reduceIte, Int.reduceLT, Int.reduceLE, Int.reduceEq, Int.reduceNe]
          intro b4
          refine s_loop (fun f5 vs Γ => ∃ (u k : Nat), vs = [.v true (.int .u64 u), .v true (.int .i64 k)] ∧ Γ = [ge, gw] ∧ k + f5 = m ∧ i ≤ k ∧ u < 4294967296 ∧ ∀ j, u.testBit j = true ↔ ∃ i', i ≤ i' ∧ i' < k ∧ z.testBit i' = true ∧ Stp (Ea xs3) w y i' j) (m - i)
            (Up.here ⟨0, i, rfl, rfl, by omega, by omega, by omega, fun j => by simp; intro i' h1 h2; omega⟩) ?_
          rintro f5 vs Γ ⟨u, k5, rfl, rfl, hkf5, hik, hu, huj⟩
          simp -implicitDefEqProofs only [S178_3, go_sem, Nat.reduceBEq, Nat.reduceAdd, Nat.reduceSub, Nat.reduceMul, Nat.reduceLeDiff, reduceCtorEq, ↓reduceIte, Int.reduceLT, Int.reduceLE, Int.reduceEq, Int.reduceNe]
          refine s_ld (o := 0) (j := 0) (cells_lk ⟨gw, by simp, hbw⟩) (by simp) (by simp) ?_
          simp -implicitDefEqProofs only [go_sem, Nat.reduceBEq, Nat.reduceAdd, Nat.reduceSub, Nat.reduceMul, Nat.reduceLeDiff, reduceCtorEq, ↓reduceIte, Int.reduceLT, Int.reduceLE, Int.reduceEq, Int.reduceNe]
          refine ⟨fun hle => ?_, fun hgt => ?_⟩
          · have hk5 : k5 ≤ w.length := by omega
            have fin : ∀ u' : Nat, u' < 4294967296 → (∀ j, u'.testBit j = true ↔ u.testBit j = true ∨ (z.testBit k5 = true ∧ Stp (Ea xs3) w y k5 j)) → ∃ n', n' < f5 ∧ Up [ge, gw] fun Γ => ∃ (u k : Nat), [Sl.v true (Value.int IntKind.u64 (u' : Int)), Sl.v true (Value.int IntKind.i64 ((k5 : Int) + 1))] = [.v true (.int .u64 u), .v true (.int .i64 k)] ∧ Γ = [ge, gw] ∧ k + n' = m ∧ i ≤ k ∧ u < 4294967296 ∧ ∀ j, u.testBit j = true ↔ ∃ i', i ≤ i' ∧ i' < k ∧ z.testBit i' = true ∧ Stp (Ea xs3) w y i' j := by
              intro u' h1 h2
              refine ⟨f5 - 1, by omega, Up.here ⟨u', k5 + 1, rfl, rfl, by omega, by omega, h1, fun j => ?_⟩⟩
              rw [h2, huj]
              constructor
              · rintro (⟨i', q1, q2, q3⟩ | q)
                · exact ⟨i', q1, by omega, q3⟩
                · exact ⟨k5, hik, by omega, q⟩
              · rintro ⟨i', q1, q2, q3⟩
                by_cases e : i' = k5
                · subst e; exact .inr q3
                · exact .inl ⟨i', q1, by omega, q3⟩
            refine s_split ?_
            simp -implicitDefEqProofs only [S178_1, S178_2, bit_shr uns64 hz, bit_get uns64 hz, fnC_eq, go_sem, Nat.reduceBEq, Nat.reduceAdd, Nat.reduceSub, Nat.reduceMul, Nat.reduceLeDiff, reduceCtorEq, ↓reduceIte, Int.reduceLT, Int.reduceLE, Int.reduceEq, Int.reduceNe]
            simp (disch := omega) only [wrap_id]
            refine ⟨by omega, fun h1 => ?_, fun h1 => ?_⟩
            · have h1 : z.testBit k5 = true := by cases e : z.testBit k5 <;> simp_all
              refine CallVC.read (ga_after (T := 278) (T2 := 29) (lk_sub (by simp) _ _ (lk_one.2 hA)) hX3 (lk_sub (by simp) _ _ (lk_one.2 hbw)) (hw.mono (lk_r _ _)) hl y (fun h => ⟨hs.1, by have := hs.2.2 h; omega⟩) k5 hk5) ?_
              rintro v Γ' ⟨rfl, z', rfl, hz', hzj'⟩
              simp -implicitDefEqProofs only [bit_or uns64 hu hz', fnC_eq, go_sem, Nat.reduceBEq, Nat.reduceAdd, Nat.reduceSub, Nat.reduceMul, Nat.reduceLeDiff, reduceCtorEq, ↓reduceIte, Int.reduceLT, Int.reduceLE, Int.reduceEq, Int.reduceNe]
              simp (disch := omega) only [wrap_id]
              refine Up.here (fin _ (Nat.or_lt_two_pow (n := 32) hu hz') fun j => ?_)
              rw [Nat.testBit_or, Bool.or_eq_true, hzj', h1]
              simp
            · have h1 : z.testBit k5 = false := by cases e : z.testBit k5 <;> simp_all
              exact Up.here (fin u hu fun j => by rw [h1]; simp)
          · have hk5 : k5 = m := by omega
            subst hk5
            simp (disch := omega) only [wrap_id]
            refine ⟨f4 - 1, by omega, Up.here ⟨u, q + 1, rfl, rfl, by omega, hu, fun j => ?_⟩⟩
            rw [huj, htk2, rch_snoc]
            constructor
            · rintro ⟨i', _, _, h1, h2⟩; exact ⟨i', (hzj i').1 h1, h2⟩
            · rintro ⟨i', h1, h2⟩
              have h3 := prtL_le (w := w) (by omega) (rch_sound hS3 h1)
              exact ⟨i', h3.1, by omega, (hzj i').2 h1, h2⟩
        · have hq : q = r.r.length := by omega
          rw [hq, List.take_length] at hzj
          have hkx : r.l.toNat * 6 + i < xs3.length := by rw [hX3.len]; omega
          have hxs := hX3.small _ (List.getElem_mem hkx)
          have hEb : ∀ j, Ea xs3 r.l i j ↔ xs3[r.l.toNat * 6 + i].n.testBit j = true := fun j => ea_at hX3 (by omega) (by omega) (by omega)
          refine s_idxA (by omega) (by omega) ?_
          simp -implicitDefEqProofs only [go_sem, Nat.reduceBEq, Nat.reduceAdd, Nat.reduceSub, Nat.reduceMul, Nat.reduceLeDiff, reduceCtorEq, ↓reduceIte, Int.reduceLT, Int.reduceLE, Int.reduceEq, Int.reduceNe]
          refine s_idxA (by omega) (by omega) ?_
          simp -implicitDefEqProofs only [go_sem, Nat.reduceBEq, Nat.reduceAdd, Nat.reduceSub, Nat.reduceMul, Nat.reduceLeDiff, reduceCtorEq, ↓reduceIte, Int.reduceLT, Int.reduceLE, Int.reduceEq, Int.reduceNe]
          refine s_ld0 (hA.cell hkx (by simp)) (by simp) (by simp) ?_
          simp -implicitDefEqProofs only [Sc.enc, bit_diff uns64 hz hxs, fnC_eq, go_sem, Nat.reduceBEq, Nat.reduceAdd, Nat.reduceSub, Nat.reduceMul, Nat.reduceLeDiff, reduceCtorEq, ↓reduceIte, Int.reduceLT, Int.reduceLE, Int.reduceEq, Int.reduceNe]
          refine ⟨fun hne => ?_, fun heq => ?_⟩
          · refine s_idxA (by omega) (by omega) ?_
            simp -implicitDefEqProofs only [go_sem, Nat.reduceBEq, Nat.reduceAdd, Nat.reduceSub, Nat.reduceMul, Nat.reduceLeDiff, reduceCtorEq, ↓reduceIte, Int.reduceLT, Int.reduceLE, Int.reduceEq, Int.reduceNe]
            refine s_idxA (by omega) (by omega) ?_
            simp -implicitDefEqProofs only [go_sem, Nat.reduceBEq, Nat.reduceAdd, Nat.reduceSub, Nat.reduceMul, Nat.reduceLeDiff, reduceCtorEq, ↓reduceIte, Int.reduceLT, Int.reduceLE, Int.reduceEq, Int.reduceNe]
            refine s_ld0 (hA.cell hkx (by simp)) (by simp) (by simp) ?_
            simp -implicitDefEqProofs only [Sc.enc, bit_or uns64 hxs hz, fnC_eq, go_sem, Nat.reduceBEq, Nat.reduceAdd, Nat.reduceSub, Nat.reduceMul, Nat.reduceLeDiff, reduceCtorEq, ↓reduceIte, Int.reduceLT, Int.reduceLE, Int.reduceEq, Int.reduceNe]
            refine s_idxA (by omega) (by omega) ?_
            simp -implicitDefEqProofs only [go_sem, Nat.reduceBEq, Nat.reduceAdd, Nat.reduceSub, Nat.reduceMul, Nat.reduceLeDiff, reduceCtorEq, ↓reduceIte, Int.reduceLT, Int.reduceLE, Int.reduceEq, Int.reduceNe]
            refine s_idxA (by omega) (by omega) ?_
            simp -implicitDefEqProofs only [go_sem, Nat.reduceBEq, Nat.reduceAdd, Nat.reduceSub, Nat.reduceMul, Nat.reduceLeDiff, reduceCtorEq, ↓reduceIte, Int.reduceLT, Int.reduceLE, Int.reduceEq, Int.reduceNe]
            refine s_storeA (ix := 0) (α := U64) (T := 278) ⟨xs3[r.l.toNat * 6 + i].n ||| z⟩ rfl hA hkx ?_
            intro g' hA' ho'
            simp -implicitDefEqProofs only [go_sem, Nat.reduceBEq, Nat.reduceAdd, Nat.reduceSub, Nat.reduceMul, Nat.reduceLeDiff, reduceCtorEq, ↓reduceIte, Int.reduceLT, Int.reduceLE, Int.reduceEq, Int.reduceNe]
            simp (disch := omega) only [wrap_id]
            have hset : ∀ {a' : Int} {i' j : Nat}, Ea (xs3.set (r.l.toNat * 6 + i) ⟨xs3[r.l.toNat * 6 + i].n ||| z⟩) a' i' j ↔ Ea xs3 a' i' j ∨ (a' = r.l.toNat ∧ i' = i ∧ z.testBit j = true) := fun {a' i' j} => ea_set hX3 (by omega) (by omega)
            have hsnd : ∀ j, z.testBit j = true → Prt rs w r.l i j := fun j h => by
              obtain ⟨u, h1, h2, h3⟩ := rch_sound hS3 ((hzj j).1 h)
              exact ⟨u, ⟨r, hmem, rfl, h1⟩, h2, h3⟩
            obtain ⟨j0, hj1, hj2⟩ : ∃ j, z.testBit j = true ∧ ¬ xs3[r.l.toNat * 6 + i].n.testBit j = true := by
              apply Classical.byContradiction
              intro q
              refine hne ?_
              have := (bdiff_zero hz hxs).2 fun j h => Classical.byContradiction fun h' => q ⟨j, h, h'⟩
              omega
            have hj0 := (prt_le (w := w) (by omega) (hsnd j0 hj1)).2
            have hlt2 : cntE 2 6 (Ea xs3) < cntE 2 6 (Ea (xs3.set (r.l.toNat * 6 + i) ⟨xs3[r.l.toNat * 6 + i].n ||| z⟩)) :=
              cntE_lt (fun a i j h => hset.2 (.inl h)) (a := r.l.toNat) (i := i) (j := j0) (by omega) (by omega) (by omega) (fun h => hj2 ((hEb j0).1 (by rw [show ((r.l.toNat : Nat) : Int) = r.l by omega] at h; exact h))) (hset.2 (.inr ⟨rfl, rfl, hj1⟩))
            refine Up.here ⟨f3 - 1, by omega, Up.here ⟨true, i + 1, g', _, rfl, rfl, by omega, hA', hX3.set (Nat.or_lt_two_pow (n := 32) hxs hz), fun a' i' j h => ?_, by omega, fun _ => by omega, fun h => Bool.noConfusion h⟩⟩
            rcases hset.1 h with h | ⟨rfl, rfl, h9⟩
            · exact hS3 _ _ _ h
            · rw [show ((r.l.toNat : Nat) : Int) = r.l by omega]
              exact hsnd j h9
          · simp (disch := omega) only [wrap_id]
            refine Up.here ⟨f3 - 1, by omega, Up.here ⟨more3, i + 1, ge, xs3, rfl, rfl, by omega, hA, hX3, hS3, hc3, hc4, fun h => ?_⟩⟩
            obtain ⟨h1, h2, h3⟩ := hC3 h
            refine ⟨h1, h2, fun i' hi' j hr => ?_⟩
            by_cases e : i' = i
            · subst e
              rw [← h1] at hr ⊢
              have hz0 : bdiff z xs3[r.l.toNat * 6 + i'].n = 0 := by omega
              exact (hEb j).2 ((bdiff_zero hz hxs).1 hz0 j ((hzj j).2 hr))
            · exact h3 i' (by omega) j hr
      · have hi : i = m := by omega
        rw [hi] at hC3
        simp (disch := omega) only [wrap_id]
        refine ⟨f2 - 1, by omega, Up.here ⟨more3, k + 1, ge, xs3, rfl, rfl, by omega, hA, hX3, hS3, hc3, hc4, fun h => ⟨(hC3 h).1, ?_⟩⟩⟩
        intro r' hr'
        rw [htk] at hr'
        rcases List.mem_append.1 hr' with h1 | h1
        · exact (hC3 h).2.1 r' h1
        · simp at h1
          subst h1
          exact fun i' j h1 h2 => (hC3 h).2.2 i' h1 j h2
    · have hk : k = rs.length := by omega
      subst hk
      rw [List.take_length] at hC2
      have hcl2 := hcl (Ea xs2)
      refine ⟨2 * (N - cntE 2 6 (Ea xs2)) + more2.toNat, ?_, Up.here ⟨more2, ge, xs2, rfl, rfl, rfl, hA, hX2, hS2, fun h => ?_⟩⟩
      · cases more2 with
        | true => have := hc3 rfl; simp only [hf, Bool.toNat_true]; omega
        | false => simp only [hf, Bool.toNat_true, Bool.toNat_false]; omega
      · obtain ⟨h1, h2⟩ := hC2 h
        rw [h1]
        exact h2
  · have hmf : more = false := by simpa using hmf
    have hkx : 0 < xs.length := by rw [hX.len]; omega
    have hxs := hX.small _ (List.getElem_mem hkx)
    refine s_idxA (by omega) (by omega) ?_
    simp -implicitDefEqProofs only [go_sem, Nat.reduceBEq, Nat.reduceAdd, Nat.reduceSub, Nat.reduceMul, Nat.reduceLeDiff, reduceCtorEq, ↓reduceIte, Int.reduceLT, Int.reduceLE, Int.reduceEq, Int.reduceNe]
    refine s_idxA (by omega) (by omega) ?_
    simp -implicitDefEqProofs only [go_sem, Nat.reduceBEq, Nat.reduceAdd, Nat.reduceSub, Nat.reduceMul, Nat.reduceLeDiff, reduceCtorEq, ↓reduceIte, Int.reduceLT, Int.reduceLE, Int.reduceEq, Int.reduceNe]
    refine s_ld0 (hA.cell hkx (by simp)) (by simp) (by simp) ?_
    simp -implicitDefEqProofs only [Sc.enc, go_sem, Nat.reduceBEq, Nat.reduceAdd, Nat.reduceSub, Nat.reduceMul, Nat.reduceLeDiff, reduceCtorEq, ↓reduceIte, Int.reduceLT, Int.reduceLE, Int.reduceEq, Int.reduceNe]
    refine s_ld (o := 0) (j := 0) (cells_lk ⟨gw, by simp, hbw⟩) (by simp) (by simp) ?_
    simp -implicitDefEqProofs only [bit_shr uns64 hxs, bit_get uns64 hxs, fnC_eq, go_sem, Nat.reduceBEq, Nat.reduceAdd, Nat.reduceSub, Nat.reduceMul, Nat.reduceLeDiff, reduceCtorEq, ↓reduceIte, Int.reduceLT, Int.reduceLE, Int.reduceEq, Int.reduceNe]
    refine ⟨by omega, Up.to [] (Ent.nil _) ?_⟩
    subst hR
    refine ⟨rfl, _, rfl, ?_⟩
    have h1 : (decide ((((xs[0].n.testBit w.length).toNat : Nat) : Int) = 1) = true) ↔ xs[0].n.testBit w.length = true := by cases xs[0].n.testBit w.length <;> simp
    rw [h1, ← prt_whole, ← prt_iff hS (fun r hr i j hi h => hC hmf r hr i j (by omega) h) 0 0 w.length (by omega), ea_at hX (by omega) (by omega) (by omega)]
    rfl
end Go.Proofs.Ytniobbepliknmaa.V
/- Increasing numbers in order, and the least ones that serve: the plain law; no condition. -/
namespace Go.Proofs.Ytniobbepliknmaa.V
open Go
set_option linter.unusedVariables false
set_option linter.unusedSimpArgs false

/-- increasing numbers from 0 on below n -/
def Val (n : Nat) (c : List Int) : Prop := (∀ x ∈ c, 0 ≤ x ∧ x < n) ∧ ∀ (p : Nat) x y, c[p]? = some x → c[p + 1]? = some y → x < y
def LtL (c d : List Int) : Prop := ∃ (p : Nat) (x y : Int), (∀ r, r < p → c[r]? = d[r]?) ∧ c[p]? = some x ∧ d[p]? = some y ∧ x < y
theorem Val.grow {n : Nat} {c : List Int} (h : Val n c) : ∀ {k p : Nat} {x y : Int}, c[p]? = some x → c[p + k]? = some y → x + k ≤ y
  | 0, p, x, y, h1, h2 => by rw [Nat.add_zero, h1] at h2; cases h2; simp
  | k + 1, p, x, y, h1, h2 => by
    have hl := (List.getElem?_eq_some_iff.1 h2).1
    have hz : c[p + k]? = some c[p + k] := List.getElem?_eq_getElem (by omega)
    have := h.grow h1 hz
    have := h.2 (p + k) _ _ hz h2
    omega
theorem Val.top {n : Nat} {c : List Int} (h : Val n c) {p : Nat} {x : Int} (h1 : c[p]? = some x) : x + (c.length - p : Nat) ≤ n := by
  have hl := (List.getElem?_eq_some_iff.1 h1).1
  have hz : c[p + (c.length - 1 - p)]? = some (c[c.length - 1]'(by omega)) := by
    rw [show p + (c.length - 1 - p) = c.length - 1 by omega]
    exact List.getElem?_eq_getElem _
  have h2 := h.grow h1 hz
  have h3 := (h.1 _ (List.getElem_mem (show c.length - 1 < c.length by omega))).2
  omega
theorem ltL_or {c d : List Int} (h : c.length = d.length) : LtL c d ∨ c = d ∨ LtL d c := by
  induction c generalizing d with
  | nil => cases d with
    | nil => exact .inr (.inl rfl)
    | cons y d => simp at h
  | cons x c ih => cases d with
    | nil => simp at h
    | cons y d =>
      rcases Int.lt_trichotomy x y with q | q | q
      · exact .inl ⟨0, x, y, fun r hr => by omega, rfl, rfl, q⟩
      · subst q
        rcases ih (d := d) (by simpa using h) with ⟨p, a, b, h1, h2, h3, h4⟩ | rfl | ⟨p, a, b, h1, h2, h3, h4⟩
        · exact .inl ⟨p + 1, a, b, fun r hr => by cases r with | zero => rfl | succ r => simpa using h1 r (by omega), by simpa using h2, by simpa using h3, h4⟩
        · exact .inr (.inl rfl)
        · exact .inr (.inr ⟨p + 1, a, b, fun r hr => by cases r with | zero => rfl | succ r => simpa using h1 r (by omega), by simpa using h2, by simpa using h3, h4⟩)
      · exact .inr (.inr ⟨0, y, x, fun r hr => by omega, rfl, rfl, q⟩)
/-- the entry with number i is one more, and the next ones follow -/
def incL (c : List Int) (i : Nat) : List Int := c.take i ++ (List.range (c.length - i)).map fun (d : Nat) => c.getD i 0 + 1 + d
theorem incL_len {c : List Int} {i : Nat} (hi : i ≤ c.length) : (incL c i).length = c.length := by simp [incL]; omega
theorem incL_lo {c : List Int} {i p : Nat} (hi : i ≤ c.length) (hp : p < i) : (incL c i)[p]? = c[p]? := by
  unfold incL
  rw [List.getElem?_append_left (by simp; omega), List.getElem?_take, if_pos hp]
theorem incL_hi {c : List Int} {i d : Nat} (hd : i + d < c.length) : (incL c i)[i + d]? = some (c.getD i 0 + 1 + d) := by
  unfold incL
  have hl : (c.take i).length = i := by simp; omega
  rw [List.getElem?_append_right (by omega), hl, Nat.add_sub_cancel_left, List.getElem?_map, List.getElem?_range (by omega)]
  rfl
/-- nothing behind i can be more -/
def Full (n : Nat) (c : List Int) (i : Nat) : Prop := ∀ (j : Nat) x, i ≤ j → c[j]? = some x → (n : Int) ≤ x + (c.length - j : Nat)
theorem next_none {n : Nat} {c d : List Int} (hf : Full n c 0) (hd : Val n d) (hl : d.length = c.length) : ¬ LtL c d := by
  rintro ⟨p, x, y, _, h2, h3, h4⟩
  have h5 := hf p x (by omega) h2
  have h6 := hd.top h3
  rw [hl] at h6
  omega
theorem next_some {n : Nat} {c d : List Int} {i : Nat} (hi : i < c.length) (hf : Full n c (i + 1)) (hd : Val n d) (hl : d.length = c.length) (h : LtL c d) : ¬ LtL d (incL c i) := by
  obtain ⟨p, x, y, h1, h2, h3, h4⟩ := h
  rintro ⟨q, u, v, k1, k2, k3, k4⟩
  have hgi : c.getD i 0 = c[i] := by simp [List.getD, hi]
  rcases Nat.lt_trichotomy p i with e | e | e
  · rcases Nat.lt_trichotomy q p with e2 | e2 | e2
    · rw [incL_lo (by omega) (by omega), h1 q e2, k2] at k3
      cases k3; omega
    · subst e2
      rw [incL_lo (by omega) e, h2] at k3
      rw [h3] at k2
      cases k2; cases k3; omega
    · have := k1 p e2
      rw [incL_lo (by omega) e, h2, h3] at this
      cases this; omega
  · subst e
    have hx : x = c[p] := by rw [List.getElem?_eq_getElem hi] at h2; cases h2; rfl
    rcases Nat.lt_trichotomy q p with e2 | e2 | e2
    · rw [incL_lo (by omega) e2, h1 q e2, k2] at k3
      cases k3; omega
    · subst e2
      have := incL_hi (c := c) (i := q) (d := 0) (by omega)
      rw [Nat.add_zero, k3] at this
      rw [h3] at k2
      cases k2
      simp only [Option.some.injEq] at this
      omega
    · have h5 := k1 p e2
      have h6 := incL_hi (c := c) (i := p) (d := 0) (by omega)
      rw [Nat.add_zero, ← h5, h3] at h6
      simp only [Option.some.injEq] at h6
      have hq : q < c.length := by
        have := (List.getElem?_eq_some_iff.1 k2).1
        omega
      have h7 := incL_hi (c := c) (i := p) (d := q - p) (by omega)
      rw [show p + (q - p) = q by omega, k3] at h7
      simp only [Option.some.injEq] at h7
      have h8 := hd.grow (k := q - p) h3 (by rw [show p + (q - p) = q by omega]; exact k2)
      omega
  · have h5 := hf p x (by omega) h2
    have h6 := hd.top h3
    rw [hl] at h6
    omega
theorem incL_val {n : Nat} {c : List Int} {i : Nat} (hc : Val n c) (hi : i < c.length) (hb : c[i] + (c.length - i : Nat) < n) : Val n (incL c i) := by
  have hgi : c.getD i 0 = c[i] := by simp [List.getD, hi]
  have h0 := (hc.1 _ (List.getElem_mem hi)).1
  have hlen := incL_len (c := c) (i := i) (by omega)
  refine ⟨fun x hx => ?_, fun p x y h1 h2 => ?_⟩
  · obtain ⟨p, hp⟩ := List.getElem?_of_mem hx
    have hpl := (List.getElem?_eq_some_iff.1 hp).1
    by_cases e : p < i
    · rw [incL_lo (by omega) e] at hp
      exact hc.1 x (List.mem_of_getElem? hp)
    · have := incL_hi (c := c) (i := i) (d := p - i) (by omega)
      rw [show i + (p - i) = p by omega, hp] at this
      simp only [Option.some.injEq] at this
      omega
  · have hpl := (List.getElem?_eq_some_iff.1 h2).1
    by_cases e : p + 1 < i
    · rw [incL_lo (by omega) (by omega)] at h1
      rw [incL_lo (by omega) e] at h2
      exact hc.2 p x y h1 h2
    · by_cases e2 : p < i
      · have hpi : p + 1 = i := by omega
        rw [incL_lo (by omega) e2] at h1
        have := incL_hi (c := c) (i := i) (d := 0) (by omega)
        rw [show i + 0 = p + 1 by omega, h2] at this
        simp only [Option.some.injEq] at this
        have h3 := hc.2 p x c[i] h1 (by rw [hpi]; exact List.getElem?_eq_getElem hi)
        omega
      · have h3 := incL_hi (c := c) (i := i) (d := p - i) (by omega)
        have h4 := incL_hi (c := c) (i := i) (d := p + 1 - i) (by omega)
        rw [show i + (p - i) = p by omega, h1] at h3
        rw [show i + (p + 1 - i) = p + 1 by omega, h2] at h4
        simp only [Option.some.injEq] at h3 h4
        omega
theorem first_val {n k : Nat} (h : k ≤ n) : Val n (numsI k) := by
  refine ⟨fun x hx => ?_, fun p x y h1 h2 => ?_⟩
  · simp [numsI] at hx
    obtain ⟨i, hi, rfl⟩ := hx
    omega
  · simp only [numsI, List.getElem?_map, Option.map_eq_some_iff] at h1 h2
    obtain ⟨a, h1, rfl⟩ := h1
    obtain ⟨b, h2, rfl⟩ := h2
    have := (List.getElem?_eq_some_iff.1 h1).2
    have := (List.getElem?_eq_some_iff.1 h2).2
    simp at *
    omega
theorem first_least {n k : Nat} {c : List Int} (hc : Val n c) (hl : c.length = k) : ¬ LtL c (numsI k) := by
  rintro ⟨p, x, y, _, h2, h3, h4⟩
  simp only [numsI, List.getElem?_map, Option.map_eq_some_iff] at h3
  obtain ⟨b, h3, rfl⟩ := h3
  have hb := (List.getElem?_eq_some_iff.1 h3).2
  have hpl := (List.getElem?_eq_some_iff.1 h2).1
  simp at hb
  have h0 : c[0]? = some (c[0]'(by omega)) := List.getElem?_eq_getElem (by omega)
  have h5 := (hc.1 _ (List.getElem_mem (show 0 < c.length by omega))).1
  have h6 := hc.grow (k := p) h0 (by rw [Nat.zero_add]; exact h2)
  omega
/-- the first numbers, at most m many, that serve -/
def LeastAt (n m : Nat) (P : List Int → Prop) (c : List Int) : Prop := Val n c ∧ c.length ≤ m ∧ P c ∧ (∀ d, Val n d → d.length < c.length → ¬ P d) ∧ ∀ d, Val n d → d.length = c.length → LtL d c → ¬ P d
theorem LeastAt.uniq {n m : Nat} {P : List Int → Prop} {c d : List Int} (hc : LeastAt n m P c) (hd : LeastAt n m P d) : c = d := by
  obtain ⟨c1, c2, c3, c4, c5⟩ := hc
  obtain ⟨d1, d2, d3, d4, d5⟩ := hd
  have hl : c.length = d.length := by
    rcases Nat.lt_trichotomy c.length d.length with q | q | q
    · exact absurd c3 (d4 c c1 q)
    · exact q
    · exact absurd d3 (c4 d d1 q)
  rcases ltL_or hl with q | q | q
  · exact absurd c3 (d5 c c1 hl q)
  · exact q
  · exact absurd d3 (c5 d d1 hl.symm q)
end Go.Proofs.Ytniobbepliknmaa.V
/- The text of slices.Clone[[]int,int] as a statement (slots: 0 s, 1 s); no condition. -/
namespace Go.Proofs.Ytniobbepliknmaa.V
open Go
def S111_0 : Stmt :=
  Stmt.seq (Stmt.region [SOper.mk (some 2) none (SOp.mv (Operand.const (Value.slice none 0 0)))] [0])
  (Stmt.seq
    (Stmt.seq
      (Stmt.region
        [SOper.mk (some 3) none (SOp.mv (Operand.tmp 0)),
          SOper.mk (some 4) none (SOp.nilq 0 false (Operand.tmp 3) (Operand.const (Value.slice none 0 0)))]
        [0, 4])
      (Stmt.cond (Operand.tmp 4)
        (Stmt.seq (Stmt.region [SOper.mk (some 2) none (SOp.mv (Operand.const (Value.slice none 0 0)))] [2]) Stmt.ret)
        Stmt.skip))
    (Stmt.seq
      (Stmt.region
        [SOper.mk (some 5) none (SOp.buildS 3 0 [] []), SOper.mk (some 6) none (SOp.mv (Operand.tmp 0)),
          SOper.mk (some 7) none (SOp.append 29 3 1 8 (Value.int IntKind.i64 0) (Operand.tmp 5) (Operand.tmp 6)),
          SOper.mk (some 2) none (SOp.mv (Operand.tmp 7))]
        [2])
      Stmt.ret))
def S111 : FnS := ⟨8, [(2, none)], S111_0⟩
theorem tr111 : trFn Try.prog 111 [] [[0], [0, 4], [2], [2]] = some S111 := by kernel_rfl
end Go.Proofs.Ytniobbepliknmaa.V
/- The text of slices.Concat[[]int,int] as a statement (slots: 0 slices, 1 slices, 3 size, 4 _, 5 s, 6 newslice, 7 _, 8 s); no condition. -/
namespace Go.Proofs.Ytniobbepliknmaa.V
open Go
def S110_1 : Stmt :=
  Stmt.block 1
  (Stmt.seq
    (Stmt.region
      [SOper.mk (some 13) none (SOp.idx 1 (Operand.tmp 9) (Operand.tmp 11)),
        SOper.mk (some 14) none (SOp.load false 1 (Operand.tmp 13)), SOper.mk (some 5) none (SOp.mv (Operand.tmp 14))]
      [0, 3, 5, 9, 10, 11])
    (Stmt.seq
      (Stmt.region
        [SOper.mk (some 15) none (SOp.mv (Operand.tmp 3)), SOper.mk (some 16) none (SOp.mv (Operand.tmp 5)),
          SOper.mk (some 17) none (SOp.len false (Operand.tmp 16)),
          SOper.mk (some 18) none (SOp.ibin BinOp.add (Operand.tmp 15) (Operand.tmp 17)),
          SOper.mk (some 3) none (SOp.mv (Operand.tmp 18))]
        [0, 3, 9, 10, 11])
      (Stmt.seq
        (Stmt.region
          [SOper.mk (some 19) none (SOp.mv (Operand.tmp 3)),
            SOper.mk (some 20) none (SOp.ibin BinOp.lss (Operand.tmp 19) (Operand.const (Value.int IntKind.i64 0)))]
          [0, 3, 9, 10, 11, 20])
        (Stmt.cond (Operand.tmp 20)
          (Stmt.region [SOper.mk (some 21) none SOp.dead, SOper.mk none none SOp.dead] [0, 3, 9, 10, 11]) Stmt.skip))))
def S110_2 : Stmt :=
  Stmt.region
  [SOper.mk (some 22) none (SOp.ibin BinOp.add (Operand.tmp 11) (Operand.const (Value.int IntKind.i64 1))),
    SOper.mk (some 11) none (SOp.mv (Operand.tmp 22))]
  [0, 3, 9, 10, 11]
def S110_3 : Stmt :=
  Stmt.seq
  (Stmt.region [SOper.mk (some 12) none (SOp.ibin BinOp.lss (Operand.tmp 11) (Operand.tmp 10))] [0, 3, 9, 10, 11, 12])
  (Stmt.seq (Stmt.cond (Operand.tmp 12) Stmt.skip (Stmt.exit 0)) (Stmt.join S110_1 S110_2 [3] [0, 9, 10, 11]))
def S110_4 : Stmt :=
  Stmt.seq
  (Stmt.region [SOper.mk (some 28) none (SOp.ibin BinOp.lss (Operand.tmp 27) (Operand.tmp 26))] [6, 25, 26, 27, 28])
  (Stmt.seq (Stmt.cond (Operand.tmp 28) Stmt.skip (Stmt.exit 2))
    (Stmt.seq
      (Stmt.block 3
        (Stmt.seq
          (Stmt.region
            [SOper.mk (some 29) none (SOp.idx 1 (Operand.tmp 25) (Operand.tmp 27)),
              SOper.mk (some 30) none (SOp.load false 1 (Operand.tmp 29)),
              SOper.mk (some 8) none (SOp.mv (Operand.tmp 30))]
            [6, 8, 25, 26, 27])
          (Stmt.region
            [SOper.mk (some 31) none (SOp.mv (Operand.tmp 6)), SOper.mk (some 32) none (SOp.mv (Operand.tmp 8)),
              SOper.mk (some 33) none (SOp.append 29 3 1 8 (Value.int IntKind.i64 0) (Operand.tmp 31) (Operand.tmp 32)),
              SOper.mk (some 6) none (SOp.mv (Operand.tmp 33))]
            [6, 25, 26, 27])))
      (Stmt.region
        [SOper.mk (some 34) none (SOp.ibin BinOp.add (Operand.tmp 27) (Operand.const (Value.int IntKind.i64 1))),
          SOper.mk (some 27) none (SOp.mv (Operand.tmp 34))]
        [6, 25, 26, 27])))
def S110_0 : Stmt :=
  Stmt.seq (Stmt.region [SOper.mk (some 2) none (SOp.mv (Operand.const (Value.slice none 0 0)))] [0])
  (Stmt.seq (Stmt.region [SOper.mk (some 3) none (SOp.mv (Operand.const (Value.int IntKind.i64 0)))] [0, 3])
    (Stmt.seq
      (Stmt.seq
        (Stmt.region
          [SOper.mk (some 9) none (SOp.mv (Operand.tmp 0)), SOper.mk (some 10) none (SOp.len false (Operand.tmp 9)),
            SOper.mk (some 11) none (SOp.mv (Operand.const (Value.int IntKind.i64 0)))]
          [0, 3, 9, 10, 11])
        (Stmt.block 0 (Stmt.loop S110_3 [3, 11] [0, 9, 10])))
      (Stmt.seq
        (Stmt.region
          [SOper.mk (some 23) none (SOp.mv (Operand.tmp 3)),
            SOper.mk (some 24) none
              (SOp.call (Operand.func 171) [Operand.const (Value.slice none 0 0), Operand.tmp 23]),
            SOper.mk (some 6) none (SOp.mv (Operand.tmp 24))]
          [0, 6])
        (Stmt.seq
          (Stmt.seq
            (Stmt.region
              [SOper.mk (some 25) none (SOp.mv (Operand.tmp 0)),
                SOper.mk (some 26) none (SOp.len false (Operand.tmp 25)),
                SOper.mk (some 27) none (SOp.mv (Operand.const (Value.int IntKind.i64 0)))]
              [6, 25, 26, 27])
            (Stmt.block 2 (Stmt.loop S110_4 [6, 27] [25, 26])))
          (Stmt.seq
            (Stmt.region
              [SOper.mk (some 35) none (SOp.mv (Operand.tmp 6)), SOper.mk (some 2) none (SOp.mv (Operand.tmp 35))] [2])
            Stmt.ret)))))
def S110 : FnS := ⟨36, [(2, none)], S110_0⟩
theorem tr110 : trFn Try.prog 110 [] [[0], [0, 3], [0, 3, 9, 10, 11], [3, 11], [0, 9, 10], [0, 3, 9, 10, 11, 12], [3], [0, 9, 10, 11], [0, 3, 5, 9, 10, 11], [0, 3, 9, 10, 11], [0, 3, 9, 10, 11, 20], [0, 3, 9, 10, 11], [0, 3, 9, 10, 11], [0, 6], [6, 25, 26, 27], [6, 27], [25, 26], [6, 25, 26, 27, 28], [6, 8, 25, 26, 27], [6, 25, 26, 27], [6, 25, 26, 27], [2]] = some S110 := by kernel_rfl
end Go.Proofs.Ytniobbepliknmaa.V
/- The text of slices.Grow[[]int,int] as a statement (slots: 0 s, 1 n, 2 s, 3 n); no condition. -/
namespace Go.Proofs.Ytniobbepliknmaa.V
open Go
def S171_1 : Stmt :=
  Stmt.seq
  (Stmt.region
    [SOper.mk (some 5) none (SOp.mv (Operand.tmp 1)),
      SOper.mk (some 6) none (SOp.ibin BinOp.lss (Operand.tmp 5) (Operand.const (Value.int IntKind.i64 0)))]
    [0, 1, 6])
  (Stmt.cond (Operand.tmp 6) (Stmt.region [SOper.mk (some 7) none SOp.dead, SOper.mk none none SOp.dead] [0, 1])
    Stmt.skip)
def S171_2 : Stmt :=
  Stmt.seq
  (Stmt.region
    [SOper.mk (some 8) none (SOp.mv (Operand.tmp 1)), SOper.mk (some 9) none (SOp.mv (Operand.tmp 0)),
      SOper.mk (some 10) none (SOp.q (Qk.bi 0 [29]) [Operand.tmp 9]), SOper.mk (some 11) none (SOp.mv (Operand.tmp 0)),
      SOper.mk (some 12) none (SOp.len false (Operand.tmp 11)),
      SOper.mk (some 13) none (SOp.ibin BinOp.sub (Operand.tmp 10) (Operand.tmp 12)),
      SOper.mk (some 14) none (SOp.ibin BinOp.sub (Operand.tmp 8) (Operand.tmp 13)),
      SOper.mk (some 1) none (SOp.mv (Operand.tmp 14))]
    [0, 1])
  (Stmt.seq
    (Stmt.region
      [SOper.mk (some 15) none (SOp.mv (Operand.tmp 1)),
        SOper.mk (some 16) none (SOp.ibin BinOp.gtr (Operand.tmp 15) (Operand.const (Value.int IntKind.i64 0)))]
      [0, 1, 16])
    (Stmt.cond (Operand.tmp 16)
      (Stmt.region
        [SOper.mk (some 17) none (SOp.mv (Operand.tmp 0)), SOper.mk (some 18) none (SOp.mv (Operand.tmp 0)),
          SOper.mk (some 19) none (SOp.q (Qk.bi 0 [29]) [Operand.tmp 18]),
          SOper.mk (some 20) none (SOp.slc 1 (Operand.tmp 17) none (some (Operand.tmp 19)) none),
          SOper.mk (some 21) none (SOp.mv (Operand.tmp 1)),
          SOper.mk (some 22) none (SOp.appz 29 3 3 1 8 (Value.int IntKind.i64 0) (Operand.tmp 20) (Operand.tmp 21)),
          SOper.mk (some 23) none (SOp.mv (Operand.tmp 0)), SOper.mk (some 24) none (SOp.len false (Operand.tmp 23)),
          SOper.mk (some 25) none (SOp.slc 1 (Operand.tmp 22) none (some (Operand.tmp 24)) none),
          SOper.mk (some 0) none (SOp.mv (Operand.tmp 25))]
        [0])
      Stmt.skip))
def S171_3 : Stmt :=
  Stmt.seq
  (Stmt.region [SOper.mk (some 26) none (SOp.mv (Operand.tmp 0)), SOper.mk (some 4) none (SOp.mv (Operand.tmp 26))] [4])
  Stmt.ret
def S171_4 : Stmt :=
  Stmt.join S171_2 S171_3 [0] []
def S171_0 : Stmt :=
  Stmt.seq (Stmt.region [SOper.mk (some 4) none (SOp.mv (Operand.const (Value.slice none 0 0)))] [0, 1])
  (Stmt.join S171_1 S171_4 [] [0, 1])
def S171 : FnS := ⟨27, [(4, none)], S171_0⟩
theorem tr171 : trFn Try.prog 171 [] [[0, 1], [], [0, 1], [0, 1, 6], [0, 1], [0], [], [0, 1], [0, 1, 16], [0], [4]] = some S171 := by kernel_rfl
end Go.Proofs.Ytniobbepliknmaa.V
/- The text of slices.Index[[]int,int] as a statement (slots: 0 s, 1 v, 2 s, 3 v, 5 i); no condition. -/
namespace Go.Proofs.Ytniobbepliknmaa.V
open Go
def S107_1 : Stmt :=
  Stmt.seq (Stmt.region [SOper.mk (some 9) none (SOp.ibin BinOp.lss (Operand.tmp 8) (Operand.tmp 7))] [0, 1, 7, 8, 9])
  (Stmt.seq (Stmt.cond (Operand.tmp 9) Stmt.skip (Stmt.exit 0))
    (Stmt.seq
      (Stmt.block 1
        (Stmt.seq
          (Stmt.region
            [SOper.mk (some 10) none (SOp.mv (Operand.tmp 8)), SOper.mk (some 5) none (SOp.mv (Operand.tmp 10))]
            [0, 1, 5, 7, 8])
          (Stmt.seq
            (Stmt.region
              [SOper.mk (some 11) none (SOp.mv (Operand.tmp 1)), SOper.mk (some 12) none (SOp.mv (Operand.tmp 0)),
                SOper.mk (some 13) none (SOp.mv (Operand.tmp 5)),
                SOper.mk (some 14) none (SOp.idx 1 (Operand.tmp 12) (Operand.tmp 13)),
                SOper.mk (some 15) none (SOp.load false 1 (Operand.tmp 14)),
                SOper.mk (some 16) none (SOp.ibin BinOp.eql (Operand.tmp 11) (Operand.tmp 15))]
              [0, 1, 5, 7, 8, 16])
            (Stmt.cond (Operand.tmp 16)
              (Stmt.seq
                (Stmt.region
                  [SOper.mk (some 17) none (SOp.mv (Operand.tmp 5)), SOper.mk (some 4) none (SOp.mv (Operand.tmp 17))]
                  [4])
                Stmt.ret)
              Stmt.skip))))
      (Stmt.region
        [SOper.mk (some 18) none (SOp.ibin BinOp.add (Operand.tmp 8) (Operand.const (Value.int IntKind.i64 1))),
          SOper.mk (some 8) none (SOp.mv (Operand.tmp 18))]
        [0, 1, 7, 8])))
def S107_0 : Stmt :=
  Stmt.seq (Stmt.region [SOper.mk (some 4) none (SOp.mv (Operand.const (Value.int IntKind.i64 0)))] [0, 1])
  (Stmt.seq
    (Stmt.seq
      (Stmt.region
        [SOper.mk (some 6) none (SOp.mv (Operand.tmp 0)), SOper.mk (some 7) none (SOp.len false (Operand.tmp 6)),
          SOper.mk (some 8) none (SOp.mv (Operand.const (Value.int IntKind.i64 0)))]
        [0, 1, 7, 8])
      (Stmt.block 0 (Stmt.loop S107_1 [8] [0, 1, 7])))
    (Stmt.seq (Stmt.region [SOper.mk (some 4) none (SOp.mv (Operand.const (Value.int IntKind.i64 (-1))))] [4])
      Stmt.ret))
def S107 : FnS := ⟨19, [(4, none)], S107_0⟩
theorem tr107 : trFn Try.prog 107 [] [[0, 1], [0, 1, 7, 8], [8], [0, 1, 7], [0, 1, 7, 8, 9], [0, 1, 5, 7, 8], [0, 1, 5, 7, 8, 16], [4], [0, 1, 7, 8], [4]] = some S107 := by kernel_rfl
end Go.Proofs.Ytniobbepliknmaa.V
/- The text of slices.Contains[[]int,int] as a statement (slots: 0 s, 1 v, 2 s, 3 v); no condition. -/
namespace Go.Proofs.Ytniobbepliknmaa.V
open Go
def S32_0 : Stmt :=
  Stmt.seq (Stmt.region [SOper.mk (some 4) none (SOp.mv (Operand.const (Value.bool false)))] [0, 1])
  (Stmt.seq
    (Stmt.region
      [SOper.mk (some 5) none (SOp.mv (Operand.tmp 0)), SOper.mk (some 6) none (SOp.mv (Operand.tmp 1)),
        SOper.mk (some 7) none (SOp.call (Operand.func 107) [Operand.tmp 5, Operand.tmp 6]),
        SOper.mk (some 8) none (SOp.ibin BinOp.geq (Operand.tmp 7) (Operand.const (Value.int IntKind.i64 0))),
        SOper.mk (some 4) none (SOp.mv (Operand.tmp 8))]
      [4])
    Stmt.ret)
def S32 : FnS := ⟨9, [(4, none)], S32_0⟩
theorem tr32 : trFn Try.prog 32 [] [[0, 1], [4]] = some S32 := by kernel_rfl
end Go.Proofs.Ytniobbepliknmaa.V
/- The text of slices.IndexFunc[[]int,int] as a statement (slots: 0 s, 1 f, 2 s, 3 f, 5 i); no condition. -/
namespace Go.Proofs.Ytniobbepliknmaa.V
open Go
def S109_1 : Stmt :=
  Stmt.seq (Stmt.region [SOper.mk (some 9) none (SOp.ibin BinOp.lss (Operand.tmp 8) (Operand.tmp 7))] [0, 1, 7, 8, 9])
  (Stmt.seq (Stmt.cond (Operand.tmp 9) Stmt.skip (Stmt.exit 0))
    (Stmt.seq
      (Stmt.block 1
        (Stmt.seq
          (Stmt.region
            [SOper.mk (some 10) none (SOp.mv (Operand.tmp 8)), SOper.mk (some 5) none (SOp.mv (Operand.tmp 10))]
            [0, 1, 5, 7, 8])
          (Stmt.seq
            (Stmt.region
              [SOper.mk (some 11) none (SOp.mv (Operand.tmp 1)), SOper.mk (some 12) none (SOp.mv (Operand.tmp 0)),
                SOper.mk (some 13) none (SOp.mv (Operand.tmp 5)),
                SOper.mk (some 14) none (SOp.idx 1 (Operand.tmp 12) (Operand.tmp 13)),
                SOper.mk (some 15) none (SOp.load false 1 (Operand.tmp 14)),
                SOper.mk (some 16) none (SOp.call (Operand.tmp 11) [Operand.tmp 15])]
              [0, 1, 5, 7, 8, 16])
            (Stmt.cond (Operand.tmp 16)
              (Stmt.seq
                (Stmt.region
                  [SOper.mk (some 17) none (SOp.mv (Operand.tmp 5)), SOper.mk (some 4) none (SOp.mv (Operand.tmp 17))]
                  [4])
                Stmt.ret)
              Stmt.skip))))
      (Stmt.region
        [SOper.mk (some 18) none (SOp.ibin BinOp.add (Operand.tmp 8) (Operand.const (Value.int IntKind.i64 1))),
          SOper.mk (some 8) none (SOp.mv (Operand.tmp 18))]
        [0, 1, 7, 8])))
def S109_0 : Stmt :=
  Stmt.seq (Stmt.region [SOper.mk (some 4) none (SOp.mv (Operand.const (Value.int IntKind.i64 0)))] [0, 1])
  (Stmt.seq
    (Stmt.seq
      (Stmt.region
        [SOper.mk (some 6) none (SOp.mv (Operand.tmp 0)), SOper.mk (some 7) none (SOp.len false (Operand.tmp 6)),
          SOper.mk (some 8) none (SOp.mv (Operand.const (Value.int IntKind.i64 0)))]
        [0, 1, 7, 8])
      (Stmt.block 0 (Stmt.loop S109_1 [8] [0, 1, 7])))
    (Stmt.seq (Stmt.region [SOper.mk (some 4) none (SOp.mv (Operand.const (Value.int IntKind.i64 (-1))))] [4])
      Stmt.ret))
def S109 : FnS := ⟨19, [(4, none)], S109_0⟩
theorem tr109 : trFn Try.prog 109 [] [[0, 1], [0, 1, 7, 8], [8], [0, 1, 7], [0, 1, 7, 8, 9], [0, 1, 5, 7, 8], [0, 1, 5, 7, 8, 16], [4], [0, 1, 7, 8], [4]] = some S109 := by kernel_rfl
end Go.Proofs.Ytniobbepliknmaa.V
/- The text of slices.ContainsFunc[[]int,int] as a statement (slots: 0 s, 1 f, 2 s, 3 f); no condition. -/
namespace Go.Proofs.Ytniobbepliknmaa.V
open Go
def S35_0 : Stmt :=
  Stmt.seq (Stmt.region [SOper.mk (some 4) none (SOp.mv (Operand.const (Value.bool false)))] [0, 1])
  (Stmt.seq
    (Stmt.region
      [SOper.mk (some 5) none (SOp.mv (Operand.tmp 0)), SOper.mk (some 6) none (SOp.mv (Operand.tmp 1)),
        SOper.mk (some 7) none (SOp.call (Operand.func 109) [Operand.tmp 5, Operand.tmp 6]),
        SOper.mk (some 8) none (SOp.ibin BinOp.geq (Operand.tmp 7) (Operand.const (Value.int IntKind.i64 0))),
        SOper.mk (some 4) none (SOp.mv (Operand.tmp 8))]
      [4])
    Stmt.ret)
def S35 : FnS := ⟨9, [(4, none)], S35_0⟩
theorem tr35 : trFn Try.prog 35 [] [[0, 1], [4]] = some S35 := by kernel_rfl
end Go.Proofs.Ytniobbepliknmaa.V
/- Functions of package slices on whole numbers walked: Clone, Concat, Index, Contains, ContainsFunc; no condition. -/
namespace Go.Proofs.Ytniobbepliknmaa.V
open Go
set_option linter.unusedVariables false
set_option linter.unusedSimpArgs false
attribute [local go_sem] e_seq e_region e_quiet e_join e_loop e_cond e_block e_exit e_ret e_skip e_fin e_kseq e_snrm e_sret e_sex e_bnrm e_bret e_bex e_rnrm e_rret e_res e_condC e_nil e_g e_mv g_mv e_pick g_pick pickC_eq e_ibin g_ibin ibinC_eq e_sbin g_sbin e_beq g_beq beqC_eq e_nilq g_nilq nilqC_sl nilqC_pt nilqC_mp e_un g_un unC_not unC_neg e_conv g_conv convC_eq e_fld g_fld fldC_ref fldC_ptr e_nilCheck g_nilCheck nilCheckC_ref nilCheckC_ptr nilCheckC_fun e_field g_field fieldC_eq e_len g_len lenC_sl lenC_str e_extract g_extract extractC_eq e_mkFunc e_build g_build e_idiv g_idiv idivC_eq e_ishift g_ishift ishiftC_eq e_idx g_idx e_idxA g_idxA e_load g_load loadC_ref loadC_ptr loadB_eq e_slc g_slc e_box boxC_loc boxC_esc e_alloc allocC_loc allocC_esc e_buildS e_store storeC_ref storeC_ptr storeB_eq e_append e_appz e_mk mkC_eq e_call callC_eq e_fn g_fn fnC_eq fnV_min' fnV_max' fnV_rune' e_q g_q e_a e_n g_call g_box g_alloc g_buildS g_store g_append g_mk g_a g_n g_dead e_dead e_callK e_drawn e_tree e_finJ e_tk e_tfin e_tno e_nbt_q e_nbt_qn e_nbt_a e_nbt_an e_nbt_fin e_early_nil e_early_t e_early_f e_nob_nil e_nob_none e_nob_some isBox_dead isBox_v isBox_ref e_dnil e_dk e_ek e_finB vcOps_vc1 e_dcons e_tq e_ekt e_tearly e_talt e_dearly look_nil look_c proj_nil proj_c looks_nil looks_c zip_nil zip_c val_tmp val_const val_func slv_v slv_box slv_ref slot_tmp slot_const slot_func slotL_v slotL_box slotL_ref put_some put_none updBox_c boxSet_box gd_eq slotVals_nil slotVals_c slotVals_b boxV_box boxOn_box slotsOn_nil slotsOn_c slotsOn_b resV_one resV_two vals_nil vals_c allOn_nil allOn_c partOn_nil partOn_c partVals_nil partVals_c fits_nil fits_c fillL_nil fillL_c mkv_one mkv_agg cellsV_agg cellsV_int cellsV_bool cellsV_slice cellsV_string cellsV_pointer cellsV_func cellsV_nilf cellsV_map one'_nil one'_c oc_int oc_bool oc_slice oc_string oc_pointer oc_func oc_nilf oc_map setC_eq iv_add iv_sub iv_mul iv_eql iv_neq iv_lss iv_leq iv_gtr iv_geq iok_add iok_sub iok_mul iok_eql iok_neq iok_lss iok_leq iok_gtr iok_geq pickV_bool args0_nil args0_c bnd_none bnd_some imp_bt imp_bf imp_ebt imp_ebf imp_eb1 imp_np imp_pp beq_tt beq_tf beq_ft beq_ff cond_or cond_and e_round e_meet Int.le_refl Int.toNat_zero decide_true decide_false Bool.or_false Bool.false_or Bool.true_or Bool.or_true Bool.and_false Bool.false_and Bool.bne_false Bool.bne_true beq_iff_eq Int.cast_ofNat_Int not_false_eq_true not_true_eq_false false_and and_false false_implies true_implies true_and and_true Bool.true_and Bool.and_true Bool.not_true Bool.not_false forall_const implies_true List.take_zero List.drop_zero List.take_succ_cons List.drop_succ_cons List.take_nil List.drop_nil List.length_cons List.length_nil List.nil_append List.append_nil List.cons_append Int.toNat_natCast decide_eq_true_eq decide_eq_false_iff_not cond_true cond_false and_self List.getElem?_cons_zero List.getElem?_cons_succ List.set_cons_zero List.set_cons_succ Option.some.injEq exists_eq_left' Nat.zero_add Nat.add_zero Nat.mul_one imp_self true_or or_true or_false false_or Bool.or_eq_true Bool.or_eq_false_iff Bool.and_eq_true Bool.and_eq_false_iff Bool.not_eq_true' Bool.not_eq_false'

theorem slices_clone {Γr : Ctx} {A : Option Addr} {c : Nat} {xs : List Int} (hx : SlOk (lk Γr) A c xs) (hs : xs.length ≤ 1048576) :
    Ret Try.prog 111 [.slice A xs.length c] Γr [] (fun v Γ => ∃ g, Γ = [g] ∧ Bld g (lk []) 3 v xs) := by
  generalize hR : (fun (v : Value) (Γ : Ctx) => ∃ g, _) = R
  refine ret_of_vc1 tr111 (Nat.le_of_ble_eq_true rfl) ?_
  simp only [S111, S111_0, go_sem, Nat.reduceBEq, Nat.reduceAdd, Nat.reduceSub, Nat.reduceMul, Nat.reduceLeDiff, reduceCtorEq, ↓reduceIte, Int.reduceLT, Int.reduceLE, Int.reduceEq, Int.reduceNe]
  refine ⟨fun hn => Up.here ?_, fun hn => ?_⟩
  · have : A = none := by simpa using hn
    subst this
    have := hx.ofNone
    subst this
    subst hR
    exact ⟨_, rfl, Bld.nil _ _ _⟩
  · intro b
    refine s_appS (α := Int) (xs := []) (ix := 1) (L := lk []) rfl ⟨[], ⟨rfl, .inl ⟨rfl, _, rfl⟩⟩, by simp⟩ hx rfl (lk_r _ _) rfl (by simp; omega) (by simp [maxLen]; omega) ?_
    intro v g hB _
    simp only [go_sem, Nat.reduceBEq, Nat.reduceAdd, Nat.reduceSub, Nat.reduceMul, Nat.reduceLeDiff, reduceCtorEq, ↓reduceIte, Int.reduceLT, Int.reduceLE, Int.reduceEq, Int.reduceNe]
    refine Up.sel [[1]] (by decide) fun _ _ => ?_
    subst hR
    exact ⟨_, rfl, hB⟩

theorem slices_grow {Γr : Ctx} (n : Nat) (hn : n ≤ 10000000) :
    Ret Try.prog 171 [.slice none 0 0, .int .i64 n] Γr [] (fun v Γ => ∃ g, Γ = [g] ∧ Bld (α := Int) g (lk []) 3 v []) := by
  generalize hR : (fun (v : Value) (Γ : Ctx) => ∃ g, _) = R
  refine ret_of_vc1 tr171 (Nat.le_of_ble_eq_true rfl) ?_
  simp only [S171, S171_0, go_sem, Nat.reduceBEq, Nat.reduceAdd, Nat.reduceSub, Nat.reduceMul, Nat.reduceLeDiff, reduceCtorEq, ↓reduceIte, Int.reduceLT, Int.reduceLE, Int.reduceEq, Int.reduceNe]
  refine s_split ?_
  simp only [S171_1, S171_2, S171_3, S171_4, go_sem, Nat.reduceBEq, Nat.reduceAdd, Nat.reduceSub, Nat.reduceMul, Nat.reduceLeDiff, reduceCtorEq, ↓reduceIte, Int.reduceLT, Int.reduceLE, Int.reduceEq, Int.reduceNe]
  refine ⟨fun h => by omega, fun _ => Up.here ?_⟩
  refine s_split ?_
  simp only [go_sem, Nat.reduceBEq, Nat.reduceAdd, Nat.reduceSub, Nat.reduceMul, Nat.reduceLeDiff, reduceCtorEq, ↓reduceIte, Int.reduceLT, Int.reduceLE, Int.reduceEq, Int.reduceNe]
  refine s_q trivial (qr_cap (e := 3) (by kernel_rfl)) ?_
  simp only [go_sem, Nat.reduceBEq, Nat.reduceAdd, Nat.reduceSub, Nat.reduceMul, Nat.reduceLeDiff, reduceCtorEq, ↓reduceIte, Int.reduceLT, Int.reduceLE, Int.reduceEq, Int.reduceNe]
  have hw : IntKind.i64.wrap ((n : Int) - IntKind.i64.wrap (0 - 0)) = n := by
    rw [wrap_id (x := 0 - 0) (by omega) (by omega), wrap_id (by omega) (by omega)]
    omega
  rw [hw]
  refine ⟨fun hpos => ?_, fun hz => ?_⟩
  · refine s_q trivial (qr_cap (e := 3) (by kernel_rfl)) ?_
    simp only [go_sem, Nat.reduceBEq, Nat.reduceAdd, Nat.reduceSub, Nat.reduceMul, Nat.reduceLeDiff, reduceCtorEq, ↓reduceIte, Int.reduceLT, Int.reduceLE, Int.reduceEq, Int.reduceNe]
    refine s_hi 0 (by simp only [go_sem, Nat.reduceBEq, Nat.reduceAdd, Nat.reduceSub, Nat.reduceMul, Nat.reduceLeDiff, reduceCtorEq, ↓reduceIte, Int.reduceLT, Int.reduceLE, Int.reduceEq, Int.reduceNe]; exact ⟨_, rfl⟩) (by omega) ?_
    simp only [go_sem, Nat.reduceBEq, Nat.reduceAdd, Nat.reduceSub, Nat.reduceMul, Nat.reduceLeDiff, reduceCtorEq, ↓reduceIte, Int.reduceLT, Int.reduceLE, Int.reduceEq, Int.reduceNe]
    refine s_appz (ix := 0) rfl (by omega) (by omega) (by simp [maxLen]; omega) ?_
    intro v g hr
    rw [Int.toNat_natCast, show cellsV (Value.int .i64 0) = [Sc.enc (0 : Int)] from rfl, zerosL_enc] at hr
    have hB : Bld g (lk []) 3 v (List.replicate n (0 : Int)) := Bld.ofRow _ hr (by simp)
    obtain ⟨A, c, rfl⟩ := hB.val
    simp only [go_sem, Nat.reduceBEq, Nat.reduceAdd, Nat.reduceSub, Nat.reduceMul, Nat.reduceLeDiff, reduceCtorEq, ↓reduceIte, Int.reduceLT, Int.reduceLE, Int.reduceEq, Int.reduceNe]
    refine s_hi 0 (by simp only [go_sem, Nat.reduceBEq, Nat.reduceAdd, Nat.reduceSub, Nat.reduceMul, Nat.reduceLeDiff, reduceCtorEq, ↓reduceIte, Int.reduceLT, Int.reduceLE, Int.reduceEq, Int.reduceNe]; exact ⟨_, rfl⟩) (by omega) ?_
    simp only [go_sem, Nat.reduceBEq, Nat.reduceAdd, Nat.reduceSub, Nat.reduceMul, Nat.reduceLeDiff, reduceCtorEq, ↓reduceIte, Int.reduceLT, Int.reduceLE, Int.reduceEq, Int.reduceNe]
    refine Up.here (Up.here ?_)
    subst hR
    exact ⟨_, rfl, by simpa using hB.take (k := 0) (by omega)⟩
  · refine Up.here (Up.here ?_)
    subst hR
    exact ⟨_, rfl, Bld.nil _ _ _⟩
theorem slices_concat {Γr : Ctx} {B : Option Addr} {d : Nat} {xss : List (List Int)} (hx : SlOk (lk Γr) B d xss) (hs : xss.flatten.length ≤ 5000000) (hl : xss.length ≤ 5000000) :
    Ret Try.prog 110 [.slice B xss.length d] Γr [] (fun v Γ => ∃ g, Γ = [g] ∧ Bld g (lk []) 3 v xss.flatten) := by
  generalize hR : (fun (v : Value) (Γ : Ctx) => ∃ g, _) = R
  refine ret_of_vc tr110 (Nat.le_of_ble_eq_true rfl) ?_
  simp only [S110, S110_0, go_sem, Nat.reduceBEq, Nat.reduceAdd, Nat.reduceSub, Nat.reduceMul, Nat.reduceLeDiff, reduceCtorEq, ↓reduceIte, Int.reduceLT, Int.reduceLE, Int.reduceEq, Int.reduceNe]
  have hpre : ∀ k, (xss.take k).flatten.length ≤ xss.flatten.length := fun k => by
    conv => rhs; rw [← List.take_append_drop k xss, List.flatten_append, List.length_append]
    omega
  have hstep : ∀ k (hk : k < xss.length), (xss.take (k + 1)).flatten = (xss.take k).flatten ++ xss[k] := fun k hk => by
    rw [List.take_succ_eq_append_getElem hk]; simp only [List.flatten_append, List.flatten_cons, List.flatten_nil, List.append_nil]
  refine s_loop (fun f vs Γ => Γ = [] ∧ ∃ k : Nat, vs = [.v true (.int .i64 ((xss.take k).flatten.length : Nat)), .v true (.int .i64 k)] ∧ k + f = xss.length) xss.length (Up.here ⟨rfl, 0, rfl, by omega⟩) ?_
  rintro f vs Γ ⟨rfl, k, rfl, hkf⟩
  simp only [S110_3, go_sem, Nat.reduceBEq, Nat.reduceAdd, Nat.reduceSub, Nat.reduceMul, Nat.reduceLeDiff, reduceCtorEq, ↓reduceIte, Int.reduceLT, Int.reduceLE, Int.reduceEq, Int.reduceNe]
  have h1 := hpre k
  have h2 := hpre (k + 1)
  refine ⟨fun hlt => ?_, fun hge => ?_⟩
  · have hk : k < xss.length := by omega
    have h3 := congrArg List.length (hstep k hk)
    simp only [List.length_append] at h3
    obtain ⟨b, o, hA, A', c', hs', hc⟩ := hx.list hk
    refine s_split ?_
    simp only [S110_1, S110_2, go_sem, Nat.reduceBEq, Nat.reduceAdd, Nat.reduceSub, Nat.reduceMul, Nat.reduceLeDiff, reduceCtorEq, ↓reduceIte, Int.reduceLT, Int.reduceLE, Int.reduceEq, Int.reduceNe]
    refine s_idx hA (by omega) (by omega) ?_
    simp only [go_sem, Nat.reduceBEq, Nat.reduceAdd, Nat.reduceSub, Nat.reduceMul, Nat.reduceLeDiff, reduceCtorEq, ↓reduceIte, Int.reduceLT, Int.reduceLE, Int.reduceEq, Int.reduceNe]
    refine s_ld0 (hc _ (Mem.le.refl _)) (by simp) (by simp) ?_
    simp only [go_sem, Nat.reduceBEq, Nat.reduceAdd, Nat.reduceSub, Nat.reduceMul, Nat.reduceLeDiff, reduceCtorEq, ↓reduceIte, Int.reduceLT, Int.reduceLE, Int.reduceEq, Int.reduceNe]
    simp (disch := omega) only [wrap_id]
    refine ⟨fun h => by omega, fun _ => Up.here ?_⟩
    exact ⟨f - 1, by omega, Up.here ⟨rfl, k + 1, by rw [h3]; rfl, by omega⟩⟩
  have hk : k = xss.length := by omega
  rw [hk, List.take_length]
  refine CallVC.read (slices_grow _ (by omega)) ?_
  rintro v Γ' ⟨g, rfl, hB⟩
  obtain ⟨A0, c0, rfl⟩ := hB.val
  simp only [go_sem, Nat.reduceBEq, Nat.reduceAdd, Nat.reduceSub, Nat.reduceMul, Nat.reduceLeDiff, reduceCtorEq, ↓reduceIte, Int.reduceLT, Int.reduceLE, Int.reduceEq, Int.reduceNe]
  refine s_loop (fun f vs Γ => ∃ g, Γ = [g] ∧ ∃ (k : Nat) (u : Value), vs = [.v true u, .v true (.int .i64 k)] ∧ k + f = xss.length ∧ Bld g (lk []) 3 u (xss.take k).flatten) xss.length (Up.here ⟨_, rfl, 0, _, rfl, by omega, hB⟩) ?_
  rintro f vs Γ ⟨g, rfl, k, u, rfl, hkf, hB⟩
  simp only [S110_4, go_sem, Nat.reduceBEq, Nat.reduceAdd, Nat.reduceSub, Nat.reduceMul, Nat.reduceLeDiff, reduceCtorEq, ↓reduceIte, Int.reduceLT, Int.reduceLE, Int.reduceEq, Int.reduceNe]
  have h1 := hpre k
  have h2 := hpre (k + 1)
  refine ⟨fun hlt => ?_, fun hge => ?_⟩
  · have hk : k < xss.length := by omega
    have h3 := congrArg List.length (hstep k hk)
    simp only [List.length_append] at h3
    obtain ⟨b, o, hA, A', c', hs', hc⟩ := hx.list hk
    refine s_idx hA (by omega) (by omega) ?_
    simp only [go_sem, Nat.reduceBEq, Nat.reduceAdd, Nat.reduceSub, Nat.reduceMul, Nat.reduceLeDiff, reduceCtorEq, ↓reduceIte, Int.reduceLT, Int.reduceLE, Int.reduceEq, Int.reduceNe]
    refine s_ld0 (hc _ (lk_r _ _)) (by simp) (by simp) ?_
    simp only [go_sem, Nat.reduceBEq, Nat.reduceAdd, Nat.reduceSub, Nat.reduceMul, Nat.reduceLeDiff, reduceCtorEq, ↓reduceIte, Int.reduceLT, Int.reduceLE, Int.reduceEq, Int.reduceNe]
    refine s_appS (ix := 0) rfl hB hs' rfl (lk_r _ _) rfl (by omega) (by unfold maxLen; omega) ?_
    intro v' g' hB' _
    simp only [go_sem, Nat.reduceBEq, Nat.reduceAdd, Nat.reduceSub, Nat.reduceMul, Nat.reduceLeDiff, reduceCtorEq, ↓reduceIte, Int.reduceLT, Int.reduceLE, Int.reduceEq, Int.reduceNe]
    simp (disch := omega) only [wrap_id]
    rw [← hstep k hk] at hB'
    exact ⟨f - 1, by omega, Up.here ⟨_, rfl, k + 1, _, rfl, by omega, hB'⟩⟩
  · have hk : k = xss.length := by omega
    rw [hk, List.take_length] at hB
    refine Up.here ?_
    subst hR
    exact ⟨_, rfl, hB⟩

theorem slices_index {Γr : Ctx} {A : Option Addr} {c : Nat} {xs : List Int} (hx : SlOk (lk Γr) A c xs) (x : Int) :
    Ret Try.prog 107 [.slice A xs.length c, .int .i64 x] Γr [] (fun v Γ => Γ = [] ∧ v = .int .i64 (match xs.findIdx? (· == x) with | some i => (i : Int) | none => -1)) := by
  generalize hR : (fun (v : Value) (Γ : Ctx) => Γ = [] ∧ _) = R
  refine ret_of_vc tr107 (Nat.le_of_ble_eq_true rfl) ?_
  have h1 := hx.short
  simp only [S107, S107_0, go_sem, Nat.reduceBEq, Nat.reduceAdd, Nat.reduceSub, Nat.reduceMul, Nat.reduceLeDiff, reduceCtorEq, ↓reduceIte, Int.reduceLT, Int.reduceLE, Int.reduceEq, Int.reduceNe]
  refine s_loop (fun f vs Γ => Γ = [] ∧ ∃ k : Nat, vs = [.v true (.int .i64 k)] ∧ k + f = xs.length ∧ ∀ (j : Nat) (hj : j < xs.length), j < k → xs[j] ≠ x) xs.length (Up.here ⟨rfl, 0, rfl, by omega, by intro j _ h; omega⟩) ?_
  rintro f vs Γ ⟨rfl, k, rfl, hkf, hno⟩
  simp only [S107_1, go_sem, Nat.reduceBEq, Nat.reduceAdd, Nat.reduceSub, Nat.reduceMul, Nat.reduceLeDiff, reduceCtorEq, ↓reduceIte, Int.reduceLT, Int.reduceLE, Int.reduceEq, Int.reduceNe]
  refine ⟨fun hlt => ?_, fun hge => ?_⟩
  · have hk : k < xs.length := by omega
    obtain ⟨b, o, hA, hc1⟩ := hx.int hk
    refine s_idx hA (by omega) (by omega) ?_
    simp only [go_sem, Nat.reduceBEq, Nat.reduceAdd, Nat.reduceSub, Nat.reduceMul, Nat.reduceLeDiff, reduceCtorEq, ↓reduceIte, Int.reduceLT, Int.reduceLE, Int.reduceEq, Int.reduceNe]
    refine s_ld0 (hc1 _ (Mem.le.refl _)) (by simp) (by simp) ?_
    simp only [go_sem, Nat.reduceBEq, Nat.reduceAdd, Nat.reduceSub, Nat.reduceMul, Nat.reduceLeDiff, reduceCtorEq, ↓reduceIte, Int.reduceLT, Int.reduceLE, Int.reduceEq, Int.reduceNe]
    refine ⟨fun he => Up.here ?_, fun hne => ?_⟩
    · subst hR
      refine ⟨rfl, ?_⟩
      have : xs.findIdx? (· == x) = some k := by
        rw [List.findIdx?_eq_some_iff_getElem]
        exact ⟨hk, by simpa using he.symm, fun j hj => by simpa using hno j (by omega) hj⟩
      rw [this]
    · simp (disch := omega) only [wrap_id]
      exact ⟨f - 1, by omega, Up.here ⟨rfl, k + 1, rfl, by omega, fun j hj hjk => by
        by_cases e : j = k
        · subst e; exact fun q => hne q.symm
        · exact hno j hj (by omega)⟩⟩
  · have hk : k = xs.length := by omega
    refine Up.here ?_
    subst hR
    refine ⟨rfl, ?_⟩
    have : xs.findIdx? (· == x) = none := by
      rw [List.findIdx?_eq_none_iff]
      intro y hy
      obtain ⟨j, hj, rfl⟩ := List.getElem_of_mem hy
      simpa using hno j hj (by omega)
    rw [this]
theorem slices_contains {Γr : Ctx} {A : Option Addr} {c : Nat} {xs : List Int} (hx : SlOk (lk Γr) A c xs) (x : Int) :
    Ret Try.prog 32 [.slice A xs.length c, .int .i64 x] Γr [] (fun v Γ => Γ = [] ∧ v = .bool (decide (x ∈ xs))) := by
  generalize hR : (fun (v : Value) (Γ : Ctx) => Γ = [] ∧ _) = R
  refine ret_of_vc tr32 (Nat.le_of_ble_eq_true rfl) ?_
  simp only [S32, S32_0, go_sem, Nat.reduceBEq, Nat.reduceAdd, Nat.reduceSub, Nat.reduceMul, Nat.reduceLeDiff, reduceCtorEq, ↓reduceIte, Int.reduceLT, Int.reduceLE, Int.reduceEq, Int.reduceNe]
  refine CallVC.read (slices_index hx x) ?_
  rintro v Γ' ⟨rfl, rfl⟩
  simp only [go_sem, Nat.reduceBEq, Nat.reduceAdd, Nat.reduceSub, Nat.reduceMul, Nat.reduceLeDiff, reduceCtorEq, ↓reduceIte, Int.reduceLT, Int.reduceLE, Int.reduceEq, Int.reduceNe]
  refine Up.here ?_
  subst hR
  refine ⟨rfl, ?_⟩
  cases hf : xs.findIdx? (· == x) with
  | none =>
    rw [List.findIdx?_eq_none_iff] at hf
    have : x ∉ xs := fun h => by have := hf x h; simp at this
    simp [this]
  | some i =>
    obtain ⟨hi, h1, _⟩ := List.findIdx?_eq_some_iff_getElem.1 hf
    have : x ∈ xs := by
      have : xs[i] = x := by simpa using h1
      rw [← this]
      exact List.getElem_mem _
    simp [this]
/-- a condition of numbers, as a function value -/
def PredOk (Γr : Ctx) (fv : Value) (p : Int → Bool) : Prop := ∃ g c1 c2, fv = .func (.func g) c1 c2 ∧ ∀ (Γ : Ctx) (x : Int), Mem.le (lk Γr) (lk Γ) → Ret Try.prog g (c1.toList ++ [.int .i64 x] ++ c2.toList) Γ [] (fun r Γ => Γ = [] ∧ r = .bool (p x))
theorem slices_indexFunc {Γr : Ctx} {A : Option Addr} {c : Nat} {xs : List Int} (hx : SlOk (lk Γr) A c xs) {fv : Value} {p : Int → Bool} (hp : PredOk Γr fv p) :
    Ret Try.prog 109 [.slice A xs.length c, fv] Γr [] (fun v Γ => Γ = [] ∧ v = .int .i64 (match xs.findIdx? p with | some i => (i : Int) | none => -1)) := by
  generalize hR : (fun (v : Value) (Γ : Ctx) => Γ = [] ∧ _) = R
  refine ret_of_vc tr109 (Nat.le_of_ble_eq_true rfl) ?_
  have h1 := hx.short
  obtain ⟨g, c1, c2, rfl, hp⟩ := hp
  simp only [S109, S109_0, go_sem, Nat.reduceBEq, Nat.reduceAdd, Nat.reduceSub, Nat.reduceMul, Nat.reduceLeDiff, reduceCtorEq, ↓reduceIte, Int.reduceLT, Int.reduceLE, Int.reduceEq, Int.reduceNe]
  refine s_loop (fun f vs Γ => Γ = [] ∧ ∃ k : Nat, vs = [.v true (.int .i64 k)] ∧ k + f = xs.length ∧ ∀ (j : Nat) (hj : j < xs.length), j < k → p xs[j] = false) xs.length (Up.here ⟨rfl, 0, rfl, by omega, by intro j _ h; omega⟩) ?_
  rintro f vs Γ ⟨rfl, k, rfl, hkf, hno⟩
  simp only [S109_1, go_sem, Nat.reduceBEq, Nat.reduceAdd, Nat.reduceSub, Nat.reduceMul, Nat.reduceLeDiff, reduceCtorEq, ↓reduceIte, Int.reduceLT, Int.reduceLE, Int.reduceEq, Int.reduceNe]
  refine ⟨fun hlt => ?_, fun hge => ?_⟩
  · have hk : k < xs.length := by omega
    obtain ⟨b, o, hA, hc1⟩ := hx.int hk
    refine s_idx hA (by omega) (by omega) ?_
    simp only [go_sem, Nat.reduceBEq, Nat.reduceAdd, Nat.reduceSub, Nat.reduceMul, Nat.reduceLeDiff, reduceCtorEq, ↓reduceIte, Int.reduceLT, Int.reduceLE, Int.reduceEq, Int.reduceNe]
    refine s_ld0 (hc1 _ (Mem.le.refl _)) (by simp) (by simp) ?_
    simp only [go_sem, Nat.reduceBEq, Nat.reduceAdd, Nat.reduceSub, Nat.reduceMul, Nat.reduceLeDiff, reduceCtorEq, ↓reduceIte, Int.reduceLT, Int.reduceLE, Int.reduceEq, Int.reduceNe]
    refine CallVC.read (hp _ _ (Mem.le.refl _)) ?_
    rintro v Γ' ⟨rfl, rfl⟩
    simp only [go_sem, Nat.reduceBEq, Nat.reduceAdd, Nat.reduceSub, Nat.reduceMul, Nat.reduceLeDiff, reduceCtorEq, ↓reduceIte, Int.reduceLT, Int.reduceLE, Int.reduceEq, Int.reduceNe]
    refine ⟨fun he => Up.here ?_, fun hne => ?_⟩
    · subst hR
      refine ⟨rfl, ?_⟩
      have : xs.findIdx? p = some k := by
        rw [List.findIdx?_eq_some_iff_getElem]
        exact ⟨hk, he, fun j hj => by simpa using hno j (by omega) hj⟩
      rw [this]
    · simp (disch := omega) only [wrap_id]
      exact ⟨f - 1, by omega, Up.here ⟨rfl, k + 1, rfl, by omega, fun j hj hjk => by
        by_cases e : j = k
        · subst e; exact hne
        · exact hno j hj (by omega)⟩⟩
  · have hk : k = xs.length := by omega
    refine Up.here ?_
    subst hR
    refine ⟨rfl, ?_⟩
    have : xs.findIdx? p = none := by
      rw [List.findIdx?_eq_none_iff]
      intro y hy
      obtain ⟨j, hj, rfl⟩ := List.getElem_of_mem hy
      exact hno j hj (by omega)
    rw [this]
theorem slices_containsFunc {Γr : Ctx} {A : Option Addr} {c : Nat} {xs : List Int} (hx : SlOk (lk Γr) A c xs) {fv : Value} {p : Int → Bool} (hp : PredOk Γr fv p) :
    Ret Try.prog 35 [.slice A xs.length c, fv] Γr [] (fun v Γ => Γ = [] ∧ v = .bool (xs.any p)) := by
  generalize hR : (fun (v : Value) (Γ : Ctx) => Γ = [] ∧ _) = R
  refine ret_of_vc tr35 (Nat.le_of_ble_eq_true rfl) ?_
  simp only [S35, S35_0, go_sem, Nat.reduceBEq, Nat.reduceAdd, Nat.reduceSub, Nat.reduceMul, Nat.reduceLeDiff, reduceCtorEq, ↓reduceIte, Int.reduceLT, Int.reduceLE, Int.reduceEq, Int.reduceNe]
  refine CallVC.read (slices_indexFunc hx hp) ?_
  rintro v Γ' ⟨rfl, rfl⟩
  simp only [go_sem, Nat.reduceBEq, Nat.reduceAdd, Nat.reduceSub, Nat.reduceMul, Nat.reduceLeDiff, reduceCtorEq, ↓reduceIte, Int.reduceLT, Int.reduceLE, Int.reduceEq, Int.reduceNe]
  refine Up.here ?_
  subst hR
  refine ⟨rfl, ?_⟩
  cases hf : xs.findIdx? p with
  | none =>
    rw [List.findIdx?_eq_none_iff] at hf
    have : xs.any p = false := by simpa using hf
    simp [this]
  | some i =>
    obtain ⟨hi, h1, _⟩ := List.findIdx?_eq_some_iff_getElem.1 hf
    have : xs.any p = true := List.any_eq_true.2 ⟨_, List.getElem_mem hi, h1⟩
    simp [this]
end Go.Proofs.Ytniobbepliknmaa.V
/- The text of parlance/guess.first as a statement (slots: 0 k, 1 k, 3 out, 4 i); no condition. -/
namespace Go.Proofs.Ytniobbepliknmaa.V
open Go
def S127_1 : Stmt :=
  Stmt.seq (Stmt.region [SOper.mk (some 9) none (SOp.ibin BinOp.lss (Operand.tmp 8) (Operand.tmp 7))] [3, 7, 8, 9])
  (Stmt.seq (Stmt.cond (Operand.tmp 9) Stmt.skip (Stmt.exit 0))
    (Stmt.seq
      (Stmt.block 1
        (Stmt.seq
          (Stmt.region
            [SOper.mk (some 10) none (SOp.mv (Operand.tmp 8)), SOper.mk (some 4) none (SOp.mv (Operand.tmp 10))]
            [3, 4, 7, 8])
          (Stmt.region
            [SOper.mk (some 11) none (SOp.mv (Operand.tmp 3)), SOper.mk (some 12) none (SOp.mv (Operand.tmp 4)),
              SOper.mk (some 13) none (SOp.buildS 3 1 [Value.int IntKind.i64 0] [(0, 1, Operand.tmp 12)]),
              SOper.mk (some 14) none (SOp.append 29 3 1 8 (Value.int IntKind.i64 0) (Operand.tmp 11) (Operand.tmp 13)),
              SOper.mk (some 3) none (SOp.mv (Operand.tmp 14))]
            [3, 7, 8])))
      (Stmt.region
        [SOper.mk (some 15) none (SOp.ibin BinOp.add (Operand.tmp 8) (Operand.const (Value.int IntKind.i64 1))),
          SOper.mk (some 8) none (SOp.mv (Operand.tmp 15))]
        [3, 7, 8])))
def S127_0 : Stmt :=
  Stmt.seq (Stmt.region [SOper.mk (some 2) none (SOp.mv (Operand.const (Value.slice none 0 0)))] [0])
  (Stmt.seq
    (Stmt.region
      [SOper.mk (some 5) none (SOp.mv (Operand.tmp 0)),
        SOper.mk (some 6) none
          (SOp.mk 3 1 8 (Value.int IntKind.i64 0) (Operand.const (Value.int IntKind.i64 0)) (Operand.tmp 5)),
        SOper.mk (some 3) none (SOp.mv (Operand.tmp 6))]
      [0, 3])
    (Stmt.seq
      (Stmt.seq
        (Stmt.region
          [SOper.mk (some 7) none (SOp.mv (Operand.tmp 0)),
            SOper.mk (some 8) none (SOp.mv (Operand.const (Value.int IntKind.i64 0)))]
          [3, 7, 8])
        (Stmt.block 0 (Stmt.loop S127_1 [3, 8] [7])))
      (Stmt.seq
        (Stmt.region
          [SOper.mk (some 16) none (SOp.mv (Operand.tmp 3)), SOper.mk (some 2) none (SOp.mv (Operand.tmp 16))] [2])
        Stmt.ret)))
def S127 : FnS := ⟨17, [(2, none)], S127_0⟩
theorem tr127 : trFn Try.prog 127 [] [[0], [0, 3], [3, 7, 8], [3, 8], [7], [3, 7, 8, 9], [3, 4, 7, 8], [3, 7, 8], [3, 7, 8], [2]] = some S127 := by kernel_rfl
end Go.Proofs.Ytniobbepliknmaa.V
/- The text of parlance/guess.next as a statement (slots: 0 at, 1 n, 2 at, 3 n, 5 i, 6 j); no condition. -/
namespace Go.Proofs.Ytniobbepliknmaa.V
open Go
def S128_1 : Stmt :=
  Stmt.seq
  (Stmt.seq
    (Stmt.region
      [SOper.mk (some 36) none (SOp.mv (Operand.tmp 6)), SOper.mk (some 37) none (SOp.mv (Operand.tmp 0)),
        SOper.mk (some 38) none (SOp.len false (Operand.tmp 37)),
        SOper.mk (some 39) none (SOp.ibin BinOp.lss (Operand.tmp 36) (Operand.tmp 38))]
      [0, 6, 39])
    (Stmt.cond (Operand.tmp 39) Stmt.skip (Stmt.exit 2)))
  (Stmt.seq
    (Stmt.block 3
      (Stmt.region
        [SOper.mk (some 42) none (SOp.mv (Operand.tmp 0)), SOper.mk (some 43) none (SOp.mv (Operand.tmp 6)),
          SOper.mk (some 44) none (SOp.mv (Operand.tmp 0)), SOper.mk (some 45) none (SOp.mv (Operand.tmp 6)),
          SOper.mk (some 46) none (SOp.ibin BinOp.sub (Operand.tmp 45) (Operand.const (Value.int IntKind.i64 1))),
          SOper.mk (some 47) none (SOp.idx 1 (Operand.tmp 44) (Operand.tmp 46)),
          SOper.mk (some 48) none (SOp.load false 1 (Operand.tmp 47)),
          SOper.mk (some 49) none (SOp.ibin BinOp.add (Operand.tmp 48) (Operand.const (Value.int IntKind.i64 1))),
          SOper.mk (some 50) none (SOp.idx 1 (Operand.tmp 42) (Operand.tmp 43)),
          SOper.mk none none (SOp.store 1 (Operand.tmp 50) (Operand.tmp 49))]
        [0, 6]))
    (Stmt.region
      [SOper.mk (some 40) none (SOp.mv (Operand.tmp 6)),
        SOper.mk (some 41) none (SOp.ibin BinOp.add (Operand.tmp 40) (Operand.const (Value.int IntKind.i64 1))),
        SOper.mk (some 6) none (SOp.mv (Operand.tmp 41))]
      [0, 6]))
def S128_2 : Stmt :=
  Stmt.seq
  (Stmt.seq
    (Stmt.region
      [SOper.mk (some 12) none (SOp.mv (Operand.tmp 5)),
        SOper.mk (some 13) none (SOp.ibin BinOp.geq (Operand.tmp 12) (Operand.const (Value.int IntKind.i64 0)))]
      [0, 1, 5, 13])
    (Stmt.cond (Operand.tmp 13) Stmt.skip (Stmt.exit 0)))
  (Stmt.seq
    (Stmt.block 1
      (Stmt.seq
        (Stmt.region
          [SOper.mk (some 16) none (SOp.mv (Operand.tmp 0)), SOper.mk (some 17) none (SOp.mv (Operand.tmp 5)),
            SOper.mk (some 18) none (SOp.idx 1 (Operand.tmp 16) (Operand.tmp 17)),
            SOper.mk (some 19) none (SOp.load false 1 (Operand.tmp 18)),
            SOper.mk (some 20) none (SOp.ibin BinOp.add (Operand.tmp 19) (Operand.const (Value.int IntKind.i64 1))),
            SOper.mk (some 21) none (SOp.idx 1 (Operand.tmp 16) (Operand.tmp 17)),
            SOper.mk none none (SOp.store 1 (Operand.tmp 21) (Operand.tmp 20))]
          [0, 1, 5])
        (Stmt.seq
          (Stmt.region
            [SOper.mk (some 22) none (SOp.mv (Operand.tmp 0)), SOper.mk (some 23) none (SOp.mv (Operand.tmp 5)),
              SOper.mk (some 24) none (SOp.idx 1 (Operand.tmp 22) (Operand.tmp 23)),
              SOper.mk (some 25) none (SOp.load false 1 (Operand.tmp 24)),
              SOper.mk (some 26) none (SOp.mv (Operand.tmp 0)),
              SOper.mk (some 27) none (SOp.len false (Operand.tmp 26)),
              SOper.mk (some 28) none (SOp.ibin BinOp.add (Operand.tmp 25) (Operand.tmp 27)),
              SOper.mk (some 29) none (SOp.ibin BinOp.sub (Operand.tmp 28) (Operand.const (Value.int IntKind.i64 1))),
              SOper.mk (some 30) none (SOp.mv (Operand.tmp 5)),
              SOper.mk (some 31) none (SOp.ibin BinOp.sub (Operand.tmp 29) (Operand.tmp 30)),
              SOper.mk (some 32) none (SOp.mv (Operand.tmp 1)),
              SOper.mk (some 33) none (SOp.ibin BinOp.lss (Operand.tmp 31) (Operand.tmp 32))]
            [0, 1, 5, 33])
          (Stmt.cond (Operand.tmp 33)
            (Stmt.seq
              (Stmt.seq
                (Stmt.region
                  [SOper.mk (some 34) none (SOp.mv (Operand.tmp 5)),
                    SOper.mk (some 35) none
                      (SOp.ibin BinOp.add (Operand.tmp 34) (Operand.const (Value.int IntKind.i64 1))),
                    SOper.mk (some 6) none (SOp.mv (Operand.tmp 35))]
                  [0, 6])
                (Stmt.block 2 (Stmt.loop S128_1 [6] [0])))
              (Stmt.seq
                (Stmt.region
                  [SOper.mk (some 51) none (SOp.mv (Operand.tmp 0)), SOper.mk (some 4) none (SOp.mv (Operand.tmp 51))]
                  [4])
                Stmt.ret))
            Stmt.skip))))
    (Stmt.region
      [SOper.mk (some 14) none (SOp.mv (Operand.tmp 5)),
        SOper.mk (some 15) none (SOp.ibin BinOp.sub (Operand.tmp 14) (Operand.const (Value.int IntKind.i64 1))),
        SOper.mk (some 5) none (SOp.mv (Operand.tmp 15))]
      [0, 1, 5]))
def S128_0 : Stmt :=
  Stmt.seq (Stmt.region [SOper.mk (some 4) none (SOp.mv (Operand.const (Value.slice none 0 0)))] [0, 1])
  (Stmt.seq
    (Stmt.region
      [SOper.mk (some 7) none (SOp.mv (Operand.tmp 0)),
        SOper.mk (some 8) none (SOp.call (Operand.func 111) [Operand.tmp 7]),
        SOper.mk (some 0) none (SOp.mv (Operand.tmp 8))]
      [0, 1])
    (Stmt.seq
      (Stmt.seq
        (Stmt.region
          [SOper.mk (some 9) none (SOp.mv (Operand.tmp 0)), SOper.mk (some 10) none (SOp.len false (Operand.tmp 9)),
            SOper.mk (some 11) none (SOp.ibin BinOp.sub (Operand.tmp 10) (Operand.const (Value.int IntKind.i64 1))),
            SOper.mk (some 5) none (SOp.mv (Operand.tmp 11))]
          [0, 1, 5])
        (Stmt.block 0 (Stmt.loop S128_2 [5] [0, 1])))
      (Stmt.seq (Stmt.region [SOper.mk (some 4) none (SOp.mv (Operand.const (Value.slice none 0 0)))] [4]) Stmt.ret)))
def S128 : FnS := ⟨52, [(4, none)], S128_0⟩
theorem tr128 : trFn Try.prog 128 [] [[0, 1], [0, 1], [0, 1, 5], [5], [0, 1], [0, 1, 5, 13], [0, 1, 5], [0, 1, 5, 33], [0, 6], [6], [0], [0, 6, 39], [0, 6], [0, 6], [4], [0, 1, 5], [4]] = some S128 := by kernel_rfl
end Go.Proofs.Ytniobbepliknmaa.V
/- The text of parlance/guess.agrees as a statement (slots: 0 g, 1 yes, 2 no, 3 g, 4 yes, 5 no, 7 _, 8 w, 9 _, 10 w); no condition. -/
namespace Go.Proofs.Ytniobbepliknmaa.V
open Go
def S130_1 : Stmt :=
  Stmt.seq
  (Stmt.region [SOper.mk (some 14) none (SOp.ibin BinOp.lss (Operand.tmp 13) (Operand.tmp 12))] [2, 3, 11, 12, 13, 14])
  (Stmt.seq (Stmt.cond (Operand.tmp 14) Stmt.skip (Stmt.exit 0))
    (Stmt.seq
      (Stmt.block 1
        (Stmt.seq
          (Stmt.region
            [SOper.mk (some 15) none (SOp.idx 1 (Operand.tmp 11) (Operand.tmp 13)),
              SOper.mk (some 16) none (SOp.load false 1 (Operand.tmp 15)),
              SOper.mk (some 8) none (SOp.mv (Operand.tmp 16))]
            [2, 3, 8, 11, 12, 13])
          (Stmt.seq
            (Stmt.region
              [SOper.mk (some 17) none (SOp.load true 4 (Operand.tmp 3)),
                SOper.mk (some 18) none (SOp.mv (Operand.tmp 8)),
                SOper.mk (some 19) none (SOp.call (Operand.func 178) [Operand.tmp 17, Operand.tmp 18]),
                SOper.mk (some 20) none (SOp.un UnOp.not (Operand.tmp 19))]
              [2, 3, 11, 12, 13, 20])
            (Stmt.cond (Operand.tmp 20)
              (Stmt.seq (Stmt.region [SOper.mk (some 6) none (SOp.mv (Operand.const (Value.bool false)))] [6]) Stmt.ret)
              Stmt.skip))))
      (Stmt.region
        [SOper.mk (some 21) none (SOp.ibin BinOp.add (Operand.tmp 13) (Operand.const (Value.int IntKind.i64 1))),
          SOper.mk (some 13) none (SOp.mv (Operand.tmp 21))]
        [2, 3, 11, 12, 13])))
def S130_2 : Stmt :=
  Stmt.seq
  (Stmt.region [SOper.mk (some 25) none (SOp.ibin BinOp.lss (Operand.tmp 24) (Operand.tmp 23))] [3, 22, 23, 24, 25])
  (Stmt.seq (Stmt.cond (Operand.tmp 25) Stmt.skip (Stmt.exit 2))
    (Stmt.seq
      (Stmt.block 3
        (Stmt.seq
          (Stmt.region
            [SOper.mk (some 26) none (SOp.idx 1 (Operand.tmp 22) (Operand.tmp 24)),
              SOper.mk (some 27) none (SOp.load false 1 (Operand.tmp 26)),
              SOper.mk (some 10) none (SOp.mv (Operand.tmp 27))]
            [3, 10, 22, 23, 24])
          (Stmt.seq
            (Stmt.region
              [SOper.mk (some 28) none (SOp.load true 4 (Operand.tmp 3)),
                SOper.mk (some 29) none (SOp.mv (Operand.tmp 10)),
                SOper.mk (some 30) none (SOp.call (Operand.func 178) [Operand.tmp 28, Operand.tmp 29])]
              [3, 22, 23, 24, 30])
            (Stmt.cond (Operand.tmp 30)
              (Stmt.seq (Stmt.region [SOper.mk (some 6) none (SOp.mv (Operand.const (Value.bool false)))] [6]) Stmt.ret)
              Stmt.skip))))
      (Stmt.region
        [SOper.mk (some 31) none (SOp.ibin BinOp.add (Operand.tmp 24) (Operand.const (Value.int IntKind.i64 1))),
          SOper.mk (some 24) none (SOp.mv (Operand.tmp 31))]
        [3, 22, 23, 24])))
def S130_0 : Stmt :=
  Stmt.seq
  (Stmt.region
    [SOper.mk (some 3) none (SOp.box true 57 (Operand.tmp 0)),
      SOper.mk (some 6) none (SOp.mv (Operand.const (Value.bool false)))]
    [1, 2, 3])
  (Stmt.seq
    (Stmt.seq
      (Stmt.region
        [SOper.mk (some 11) none (SOp.mv (Operand.tmp 1)), SOper.mk (some 12) none (SOp.len false (Operand.tmp 11)),
          SOper.mk (some 13) none (SOp.mv (Operand.const (Value.int IntKind.i64 0)))]
        [2, 3, 11, 12, 13])
      (Stmt.block 0 (Stmt.loop S130_1 [13] [2, 3, 11, 12])))
    (Stmt.seq
      (Stmt.seq
        (Stmt.region
          [SOper.mk (some 22) none (SOp.mv (Operand.tmp 2)), SOper.mk (some 23) none (SOp.len false (Operand.tmp 22)),
            SOper.mk (some 24) none (SOp.mv (Operand.const (Value.int IntKind.i64 0)))]
          [3, 22, 23, 24])
        (Stmt.block 2 (Stmt.loop S130_2 [24] [3, 22, 23])))
      (Stmt.seq (Stmt.region [SOper.mk (some 6) none (SOp.mv (Operand.const (Value.bool true)))] [6]) Stmt.ret)))
def S130 : FnS := ⟨32, [(6, none)], S130_0⟩
theorem tr130 : trFn Try.prog 130 [3] [[1, 2, 3], [2, 3, 11, 12, 13], [13], [2, 3, 11, 12], [2, 3, 11, 12, 13, 14], [2, 3, 8, 11, 12, 13], [2, 3, 11, 12, 13, 20], [6], [2, 3, 11, 12, 13], [3, 22, 23, 24], [24], [3, 22, 23], [3, 22, 23, 24, 25], [3, 10, 22, 23, 24], [3, 22, 23, 24, 30], [6], [3, 22, 23, 24], [6]] = some S130 := by kernel_rfl
end Go.Proofs.Ytniobbepliknmaa.V
/- The numbers of rules in order, and whether a grammar agrees with examples: guess.first, next, agrees; no condition. -/
namespace Go.Proofs.Ytniobbepliknmaa.V
open Go
set_option linter.unusedVariables false
set_option linter.unusedSimpArgs false
attribute [local go_sem] e_seq e_region e_quiet e_join e_loop e_cond e_block e_exit e_ret e_skip e_fin e_kseq e_snrm e_sret e_sex e_bnrm e_bret e_bex e_rnrm e_rret e_res e_condC e_nil e_g e_mv g_mv e_pick g_pick pickC_eq e_ibin g_ibin ibinC_eq e_sbin g_sbin e_beq g_beq beqC_eq e_nilq g_nilq nilqC_sl nilqC_pt nilqC_mp e_un g_un unC_not unC_neg e_conv g_conv convC_eq e_fld g_fld fldC_ref fldC_ptr e_nilCheck g_nilCheck nilCheckC_ref nilCheckC_ptr nilCheckC_fun e_field g_field fieldC_eq e_len g_len lenC_sl lenC_str e_extract g_extract extractC_eq e_mkFunc e_build g_build e_idiv g_idiv idivC_eq e_ishift g_ishift ishiftC_eq e_idx g_idx e_idxA g_idxA e_load g_load loadC_ref loadC_ptr loadB_eq e_slc g_slc e_box boxC_loc boxC_esc e_alloc allocC_loc allocC_esc e_buildS e_store storeC_ref storeC_ptr storeB_eq e_append e_appz e_mk mkC_eq e_call callC_eq e_fn g_fn fnC_eq fnV_min' fnV_max' fnV_rune' e_q g_q e_a e_n g_call g_box g_alloc g_buildS g_store g_append g_mk g_a g_n g_dead e_dead e_callK e_drawn e_tree e_finJ e_tk e_tfin e_tno e_nbt_q e_nbt_qn e_nbt_a e_nbt_an e_nbt_fin e_early_nil e_early_t e_early_f e_nob_nil e_nob_none e_nob_some isBox_dead isBox_v isBox_ref e_dnil e_dk e_ek e_finB vcOps_vc1 e_dcons e_tq e_ekt e_tearly e_talt e_dearly look_nil look_c proj_nil proj_c looks_nil looks_c zip_nil zip_c val_tmp val_const val_func slv_v slv_box slv_ref slot_tmp slot_const slot_func slotL_v slotL_box slotL_ref put_some put_none updBox_c boxSet_box gd_eq slotVals_nil slotVals_c slotVals_b boxV_box boxOn_box slotsOn_nil slotsOn_c slotsOn_b resV_one resV_two vals_nil vals_c allOn_nil allOn_c partOn_nil partOn_c partVals_nil partVals_c fits_nil fits_c fillL_nil fillL_c mkv_one mkv_agg cellsV_agg cellsV_int cellsV_bool cellsV_slice cellsV_string cellsV_pointer cellsV_func cellsV_nilf cellsV_map one'_nil one'_c oc_int oc_bool oc_slice oc_string oc_pointer oc_func oc_nilf oc_map setC_eq iv_add iv_sub iv_mul iv_eql iv_neq iv_lss iv_leq iv_gtr iv_geq iok_add iok_sub iok_mul iok_eql iok_neq iok_lss iok_leq iok_gtr iok_geq pickV_bool args0_nil args0_c bnd_none bnd_some imp_bt imp_bf imp_ebt imp_ebf imp_eb1 imp_np imp_pp beq_tt beq_tf beq_ft beq_ff cond_or cond_and e_round e_meet Int.le_refl Int.toNat_zero decide_true decide_false Bool.or_false Bool.false_or Bool.true_or Bool.or_true Bool.and_false Bool.false_and Bool.bne_false Bool.bne_true beq_iff_eq Int.cast_ofNat_Int not_false_eq_true not_true_eq_false false_and and_false false_implies true_implies true_and and_true Bool.true_and Bool.and_true Bool.not_true Bool.not_false forall_const implies_true List.take_zero List.drop_zero List.take_succ_cons List.drop_succ_cons List.take_nil List.drop_nil List.length_cons List.length_nil List.nil_append List.append_nil List.cons_append Int.toNat_natCast decide_eq_true_eq decide_eq_false_iff_not cond_true cond_false and_self List.getElem?_cons_zero List.getElem?_cons_succ List.set_cons_zero List.set_cons_succ Option.some.injEq exists_eq_left' Nat.zero_add Nat.add_zero Nat.mul_one imp_self true_or or_true or_false false_or Bool.or_eq_true Bool.or_eq_false_iff Bool.and_eq_true Bool.and_eq_false_iff Bool.not_eq_true' Bool.not_eq_false'

theorem Bld.some {g : PH} {L : Mem} {e : TypeId} {v : Value} {xs : List Int} (h : Bld g L e v xs) (hx : 0 < xs.length) : ∃ b o c, v = .slice (Option.some ⟨b, o, none⟩) xs.length c := by
  obtain ⟨A, c, rfl⟩ := h.val
  rcases h.sc.2 with q | ⟨b, o, cap, cur, rfl, _⟩
  · rw [q] at hx; simp at hx
  · exact ⟨b, o, c, rfl⟩
theorem guess_first {Γr : Ctx} (k : Nat) (hk : k ≤ 100) :
    Ret Try.prog 127 [.int .i64 k] Γr [] (fun v Γ => ∃ g b o c, Γ = [g] ∧ v = .slice (some ⟨b, o, none⟩) k c ∧ Bld g (lk []) 3 v (numsI k)) := by
  generalize hR : (fun (v : Value) (Γ : Ctx) => ∃ g b o c, _) = R
  refine ret_of_vc tr127 (Nat.le_of_ble_eq_true rfl) ?_
  simp -implicitDefEqProofs only [S127, S127_0, go_sem, Nat.reduceBEq, Nat.reduceAdd, Nat.reduceSub, Nat.reduceMul, Nat.reduceLeDiff, reduceCtorEq, ↓reduceIte, Int.reduceLT, Int.reduceLE, Int.reduceEq, Int.reduceNe]
  refine ⟨by omega, by omega, fun b => ?_⟩
  have hB0 : Bld (α := Int) (one b (.cells (zerosL (cellsV (Value.int .i64 0)) k).toArray 3)) (lk []) 3 (.slice (some ⟨b, 0, none⟩) 0 k) [] := Bld.make0 (α := Int) (z := .int .i64 0) rfl (by unfold maxLen; omega)
  refine s_loop (fun f vs Γ => ∃ (j : Nat) (g : PH) (b o c : Nat), vs = [.v true (.slice (some ⟨b, o, none⟩) j c), .v true (.int .i64 j)] ∧ Γ = [g] ∧ j + f = k ∧ Bld g (lk []) 3 (.slice (some ⟨b, o, none⟩) j c) (numsI j)) k (Up.here ⟨0, _, b, 0, k, rfl, rfl, by omega, hB0⟩) ?_
  rintro f vs Γ ⟨j, g, b1, o, c, rfl, rfl, hjf, hB⟩
  have hnl := numsI_len j
  simp -implicitDefEqProofs only [S127_1, go_sem, Nat.reduceBEq, Nat.reduceAdd, Nat.reduceSub, Nat.reduceMul, Nat.reduceLeDiff, reduceCtorEq, ↓reduceIte, Int.reduceLT, Int.reduceLE, Int.reduceEq, Int.reduceNe]
  refine ⟨fun hlt => ?_, fun hge => Up.here ?_⟩
  · intro b2
    refine s_app1S (ix := 1) (j : Int) rfl hB cells_one rfl (by omega) (by unfold maxLen; omega) ?_
    intro v g' hB' _
    rw [← numsI_succ] at hB'
    obtain ⟨b3, o3, c3, rfl⟩ := hB'.some (by rw [numsI_len]; omega)
    rw [numsI_len] at hB'
    simp -implicitDefEqProofs only [numsI_len, go_sem, Nat.reduceBEq, Nat.reduceAdd, Nat.reduceSub, Nat.reduceMul, Nat.reduceLeDiff, reduceCtorEq, ↓reduceIte, Int.reduceLT, Int.reduceLE, Int.reduceEq, Int.reduceNe]
    simp (disch := omega) only [wrap_id]
    exact ⟨f - 1, by omega, Up.sel [[1]] (by decide) fun _ _ => ⟨j + 1, _, b3, o3, c3, rfl, rfl, by omega, hB'⟩⟩
  · have hj : j = k := by omega
    subst hj
    subst hR
    exact ⟨g, b1, o, c, rfl, rfl, hB⟩
set_option maxHeartbeats 1000000 in
theorem guess_next {Γr : Ctx} {A : Option Addr} {c : Nat} {xs : List Int} (hx : SlOk (lk Γr) A c xs) (n : Nat) (hV : Val n xs) (hl : xs.length ≤ 100) (hn : n ≤ 1000) :
    Ret Try.prog 128 [.slice A xs.length c, .int .i64 n] Γr [] (fun v Γ => (Γ = [] ∧ v = .slice none 0 0 ∧ Full n xs 0) ∨
      (∃ g b o c i, Γ = [g] ∧ v = .slice (some ⟨b, o, none⟩) xs.length c ∧ Bld g (lk []) 3 v (incL xs i) ∧ ∃ h : i < xs.length, xs[i] + (xs.length - i : Nat) < n ∧ Full n xs (i + 1))) := by
  generalize hR : (fun (v : Value) (Γ : Ctx) => _ ∨ _) = R
  refine ret_of_vc tr128 (Nat.le_of_ble_eq_true rfl) ?_
  simp -implicitDefEqProofs only [S128, S128_0, go_sem, Nat.reduceBEq, Nat.reduceAdd, Nat.reduceSub, Nat.reduceMul, Nat.reduceLeDiff, reduceCtorEq, ↓reduceIte, Int.reduceLT, Int.reduceLE, Int.reduceEq, Int.reduceNe]
  refine CallVC.read (slices_clone (hx.mono (lk_r _ _)) (by omega)) ?_
  rintro v Γ' ⟨g, rfl, hB⟩
  rcases Nat.eq_zero_or_pos xs.length with h0 | hpos
  · obtain ⟨A2, c2, rfl⟩ := hB.val
    simp -implicitDefEqProofs only [go_sem, Nat.reduceBEq, Nat.reduceAdd, Nat.reduceSub, Nat.reduceMul, Nat.reduceLeDiff, reduceCtorEq, ↓reduceIte, Int.reduceLT, Int.reduceLE, Int.reduceEq, Int.reduceNe]
    rw [h0]
    simp (disch := omega) only [wrap_id]
    refine s_loop (fun f vs Γ => Γ = [g] ∧ vs = [.v true (.int .i64 (-1))]) 0 (Up.here ⟨rfl, rfl⟩) ?_
    rintro f vs Γ ⟨rfl, rfl⟩
    simp -implicitDefEqProofs only [S128_2, go_sem, Nat.reduceBEq, Nat.reduceAdd, Nat.reduceSub, Nat.reduceMul, Nat.reduceLeDiff, reduceCtorEq, ↓reduceIte, Int.reduceLT, Int.reduceLE, Int.reduceEq, Int.reduceNe]
    refine Up.to [] (Ent.nil _) ?_
    subst hR
    exact .inl ⟨rfl, rfl, fun j x _ hj => by have := (List.getElem?_eq_some_iff.1 hj).1; omega⟩
  obtain ⟨b, o, c2, rfl⟩ := hB.some hpos
  simp -implicitDefEqProofs only [go_sem, Nat.reduceBEq, Nat.reduceAdd, Nat.reduceSub, Nat.reduceMul, Nat.reduceLeDiff, reduceCtorEq, ↓reduceIte, Int.reduceLT, Int.reduceLE, Int.reduceEq, Int.reduceNe]
  simp (disch := omega) only [wrap_id]
  refine s_loop (fun f vs Γ => ∃ (g : PH) (cur : List Int), vs = [.v true (.int .i64 ((f : Int) - 1))] ∧ Γ = [g] ∧ f ≤ xs.length ∧ cur.length = xs.length ∧ cur.take f = xs.take f ∧ Full n xs f ∧ Bld g (lk []) 3 (.slice (some ⟨b, o, none⟩) xs.length c2) cur) xs.length
    (Up.here ⟨g, xs, rfl, rfl, by omega, rfl, rfl, fun j x hj h => by have := (List.getElem?_eq_some_iff.1 h).1; omega, hB⟩) ?_
  clear hB
  rintro f vs Γ ⟨g, cur, rfl, rfl, hf, hcl, htk, hfull, hB⟩
  simp -implicitDefEqProofs only [S128_2, go_sem, Nat.reduceBEq, Nat.reduceAdd, Nat.reduceSub, Nat.reduceMul, Nat.reduceLeDiff, reduceCtorEq, ↓reduceIte, Int.reduceLT, Int.reduceLE, Int.reduceEq, Int.reduceNe]
  refine ⟨fun hge => ?_, fun hlt => ?_⟩
  · obtain ⟨i, rfl⟩ : ∃ i, f = i + 1 := ⟨f - 1, by omega⟩
    have e0 : (((i + 1 : Nat) : Int) - 1) = (i : Int) := by omega
    rw [e0]
    have hi : i < xs.length := by omega
    have hic : i < cur.length := by omega
    have hcx : cur[i] = xs[i] := by
      have h1 := congrArg (·[i]?) htk
      simp only [List.getElem?_take, Nat.lt_succ_self, if_true] at h1
      rw [List.getElem?_eq_getElem hic, List.getElem?_eq_getElem hi] at h1
      simpa using h1
    have hb := hV.1 _ (List.getElem_mem hi)
    obtain ⟨Az, cz, ez, hSl⟩ := hB.slok (L' := lk [g]) (Mem.le.refl _) (lk_sub (by simp)) (by omega)
    simp only [Value.slice.injEq] at ez
    obtain ⟨rfl, _, rfl⟩ := ez
    obtain ⟨b1, o1, hA1, hc1⟩ := hSl.int hic
    simp only [Option.some.injEq, Addr.mk.injEq, and_true] at hA1
    obtain ⟨rfl, rfl⟩ := hA1
    rw [hcx] at hc1
    refine s_idx rfl (by omega) (by omega) ?_
    simp -implicitDefEqProofs only [go_sem, Nat.reduceBEq, Nat.reduceAdd, Nat.reduceSub, Nat.reduceMul, Nat.reduceLeDiff, reduceCtorEq, ↓reduceIte, Int.reduceLT, Int.reduceLE, Int.reduceEq, Int.reduceNe]
    refine s_ld0 (hc1 _ (lk_sub (by simp))) (by simp) (by simp) ?_
    simp -implicitDefEqProofs only [go_sem, Nat.reduceBEq, Nat.reduceAdd, Nat.reduceSub, Nat.reduceMul, Nat.reduceLeDiff, reduceCtorEq, ↓reduceIte, Int.reduceLT, Int.reduceLE, Int.reduceEq, Int.reduceNe]
    refine s_idx rfl (by omega) (by omega) ?_
    simp -implicitDefEqProofs only [go_sem, Nat.reduceBEq, Nat.reduceAdd, Nat.reduceSub, Nat.reduceMul, Nat.reduceLeDiff, reduceCtorEq, ↓reduceIte, Int.reduceLT, Int.reduceLE, Int.reduceEq, Int.reduceNe]
    simp (disch := omega) only [wrap_id]
    refine s_storeB (ix := 0) (α := Int) (xs[i] + 1) rfl hB hic ?_
    intro g2 hB2 _
    have hcl2 : (cur.set i (xs[i] + 1)).length = xs.length := by simpa using hcl
    have hic2 : i < (cur.set i (xs[i] + 1)).length := by omega
    obtain ⟨Az, cz, ez, hSl2⟩ := hB2.slok (L' := lk [g2]) (Mem.le.refl _) (lk_sub (by simp)) (by omega)
    simp only [Value.slice.injEq] at ez
    obtain ⟨rfl, _, rfl⟩ := ez
    obtain ⟨b1, o1, hA1, hc2⟩ := hSl2.int hic2
    simp only [Option.some.injEq, Addr.mk.injEq, and_true] at hA1
    obtain ⟨rfl, rfl⟩ := hA1
    rw [List.getElem_set_self] at hc2
    simp -implicitDefEqProofs only [go_sem, Nat.reduceBEq, Nat.reduceAdd, Nat.reduceSub, Nat.reduceMul, Nat.reduceLeDiff, reduceCtorEq, ↓reduceIte, Int.reduceLT, Int.reduceLE, Int.reduceEq, Int.reduceNe]
    refine s_idx rfl (by omega) (by omega) ?_
    simp -implicitDefEqProofs only [go_sem, Nat.reduceBEq, Nat.reduceAdd, Nat.reduceSub, Nat.reduceMul, Nat.reduceLeDiff, reduceCtorEq, ↓reduceIte, Int.reduceLT, Int.reduceLE, Int.reduceEq, Int.reduceNe]
    refine s_ld0 (hc2 _ (lk_sub (by simp))) (by simp) (by simp) ?_
    simp -implicitDefEqProofs only [go_sem, Nat.reduceBEq, Nat.reduceAdd, Nat.reduceSub, Nat.reduceMul, Nat.reduceLeDiff, reduceCtorEq, ↓reduceIte, Int.reduceLT, Int.reduceLE, Int.reduceEq, Int.reduceNe]
    simp (disch := omega) only [wrap_id]
    refine ⟨fun hl2 => ?_, fun hl2 => ?_⟩
    · have hgi : xs.getD i 0 = xs[i] := by simp [List.getD, hi]
      have hil := incL_len (c := xs) (i := i) (by omega)
      refine s_loop (fun f2 vs Γ => ∃ (g : PH) (j : Nat) (cur : List Int), vs = [.v true (.int .i64 j)] ∧ Γ = [g] ∧ i < j ∧ j + f2 = xs.length ∧ cur.length = xs.length ∧ cur.take j = (incL xs i).take j ∧ Bld g (lk []) 3 (.slice (some ⟨b, o, none⟩) xs.length c2) cur) (xs.length - (i + 1))
        (Up.here ⟨g2, i + 1, _, rfl, rfl, by omega, by omega, hcl2, ?_, hB2⟩) ?_
      · apply List.ext_getElem?
        intro q
        rw [List.getElem?_take, List.getElem?_take]
        split
        · rename_i hq
          by_cases e : q = i
          · subst e
            rw [List.getElem?_set_self hic]
            have := incL_hi (c := xs) (i := q) (d := 0) (by omega)
            rw [Nat.add_zero] at this
            rw [this, hgi]
            simp
          · rw [List.getElem?_set_ne (fun w => e w.symm), incL_lo (by omega) (by omega)]
            have h1 := congrArg (·[q]?) htk
            simp only [List.getElem?_take, hq, if_true] at h1
            exact h1
        · rfl
      clear hB hB2 hSl hSl2 hcl hcl2 hc1 hc2 hcx htk hic hic2
      rintro f2 vs Γ ⟨g, j, cur, rfl, rfl, hij, hjf, hcl, htk, hB⟩
      simp -implicitDefEqProofs only [S128_1, go_sem, Nat.reduceBEq, Nat.reduceAdd, Nat.reduceSub, Nat.reduceMul, Nat.reduceLeDiff, reduceCtorEq, ↓reduceIte, Int.reduceLT, Int.reduceLE, Int.reduceEq, Int.reduceNe]
      refine ⟨fun hlt => ?_, fun hge => Up.here ?_⟩
      · have hj : j < xs.length := by omega
        have hjc : j - 1 < cur.length := by omega
        have hcj : cur[j - 1] = xs[i] + 1 + (j - 1 - i : Nat) := by
          have h1 := congrArg (·[j - 1]?) htk
          simp only [List.getElem?_take, show j - 1 < j by omega, if_true] at h1
          have h2 := incL_hi (c := xs) (i := i) (d := j - 1 - i) (by omega)
          rw [show i + (j - 1 - i) = j - 1 by omega] at h2
          rw [h2, List.getElem?_eq_getElem hjc, hgi] at h1
          simpa using h1
        obtain ⟨Az, cz, ez, hSl⟩ := hB.slok (L' := lk [g]) (Mem.le.refl _) (lk_sub (by simp)) (by omega)
        simp only [Value.slice.injEq] at ez
        obtain ⟨rfl, _, rfl⟩ := ez
        obtain ⟨b1, o1, hA1, hc1⟩ := hSl.int hjc
        simp only [Option.some.injEq, Addr.mk.injEq, and_true] at hA1
        obtain ⟨rfl, rfl⟩ := hA1
        rw [hcj] at hc1
        simp (disch := omega) only [wrap_id]
        refine s_idx rfl (by omega) (by omega) ?_
        rw [show (((j : Int) - 1).toNat) = j - 1 by omega]
        simp -implicitDefEqProofs only [go_sem, Nat.reduceBEq, Nat.reduceAdd, Nat.reduceSub, Nat.reduceMul, Nat.reduceLeDiff, reduceCtorEq, ↓reduceIte, Int.reduceLT, Int.reduceLE, Int.reduceEq, Int.reduceNe]
        refine s_ld0 (hc1 _ (lk_sub (by simp))) (by simp) (by simp) ?_
        simp -implicitDefEqProofs only [go_sem, Nat.reduceBEq, Nat.reduceAdd, Nat.reduceSub, Nat.reduceMul, Nat.reduceLeDiff, reduceCtorEq, ↓reduceIte, Int.reduceLT, Int.reduceLE, Int.reduceEq, Int.reduceNe]
        refine s_idx rfl (by omega) (by omega) ?_
        simp -implicitDefEqProofs only [go_sem, Nat.reduceBEq, Nat.reduceAdd, Nat.reduceSub, Nat.reduceMul, Nat.reduceLeDiff, reduceCtorEq, ↓reduceIte, Int.reduceLT, Int.reduceLE, Int.reduceEq, Int.reduceNe]
        simp (disch := omega) only [wrap_id]
        refine s_storeB (ix := 0) (α := Int) (xs[i] + 1 + (j - 1 - i : Nat) + 1) rfl hB (i := j) (by omega) ?_
        intro g3 hB3 _
        simp -implicitDefEqProofs only [go_sem, Nat.reduceBEq, Nat.reduceAdd, Nat.reduceSub, Nat.reduceMul, Nat.reduceLeDiff, reduceCtorEq, ↓reduceIte, Int.reduceLT, Int.reduceLE, Int.reduceEq, Int.reduceNe]
        simp (disch := omega) only [wrap_id]
        refine ⟨f2 - 1, by omega, Up.here ⟨g3, j + 1, _, rfl, rfl, by omega, by omega, by simpa using hcl, ?_, hB3⟩⟩
        apply List.ext_getElem?
        intro q
        rw [List.getElem?_take, List.getElem?_take]
        split
        · rename_i hq
          by_cases e : q = j
          · subst e
            rw [List.getElem?_set_self (by omega)]
            have := incL_hi (c := xs) (i := i) (d := q - i) (by omega)
            rw [show i + (q - i) = q by omega] at this
            rw [this, hgi]
            simp only [Option.some.injEq]
            omega
          · rw [List.getElem?_set_ne (fun w => e w.symm)]
            have h1 := congrArg (·[q]?) htk
            simp only [List.getElem?_take, show q < j by omega, if_true] at h1
            exact h1
        · rfl
      · have hj : j = xs.length := by omega
        have hfin : cur = incL xs i := by
          rw [hj] at htk
          rw [List.take_of_length_le (by omega), List.take_of_length_le (by omega)] at htk
          exact htk
        rw [hfin] at hB
        subst hR
        exact .inr ⟨g, b, o, c2, i, rfl, rfl, hB, hi, by omega, hfull⟩
    · refine ⟨i, by omega, Up.here ⟨g2, _, rfl, rfl, by omega, hcl2, ?_, fun j x hj h => ?_, hB2⟩⟩
      · rw [List.take_set_of_le (by omega)]
        have h1 := congrArg (List.take i) htk
        rw [List.take_take, List.take_take, show min i (i + 1) = i by omega] at h1
        exact h1
      · by_cases e : j = i
        · subst e
          rw [List.getElem?_eq_getElem hi] at h
          simp only [Option.some.injEq] at h
          omega
        · exact hfull j x (by omega) h
  · have hf0 : f = 0 := by omega
    subst hf0
    refine Up.to [] (Ent.nil _) ?_
    subst hR
    exact .inl ⟨rfl, rfl, hfull⟩
/-- a grammar of these rules agrees with examples -/
def Agr (yes no : List (List Int)) (rs : List Ru) : Prop := (∀ w ∈ yes, DerN id rs 0 w) ∧ ∀ w ∈ no, ¬ DerN id rs 0 w
theorem guess_agrees {Γr : Ctx} {ts ns st : Int} {rs : List Ru} {A Y Z : Option Addr} {c d e : Nat} {yes no : List (List Int)} (hx : SlOk (lk Γr) A c rs) (hy : SlOk (lk Γr) Y d yes) (hn : SlOk (lk Γr) Z e no) (V : RsOk rs 2) (hyl : ∀ w ∈ yes, w.length ≤ 5) (hnl : ∀ w ∈ no, w.length ≤ 5) :
    Ret Try.prog 130 [.agg #[.int .i64 ts, .int .i64 ns, .int .i64 st, .slice A rs.length c], .slice Y yes.length d, .slice Z no.length e] Γr [] (fun v Γ => Γ = [] ∧ ∃ q : Bool, v = .bool q ∧ (q = true ↔ Agr yes no rs)) := by
  generalize hR : (fun (v : Value) (Γ : Ctx) => Γ = [] ∧ _) = R
  refine ret_of_vc tr130 (Nat.le_of_ble_eq_true rfl) ?_
  have h1 := hy.short
  have h2 := hn.short
  simp -implicitDefEqProofs only [S130, S130_0, go_sem, Nat.reduceBEq, Nat.reduceAdd, Nat.reduceSub, Nat.reduceMul, Nat.reduceLeDiff, reduceCtorEq, ↓reduceIte, Int.reduceLT, Int.reduceLE, Int.reduceEq, Int.reduceNe]
  intro b0
  refine s_loop (fun f vs Γ => Γ = [] ∧ ∃ k : Nat, vs = [.v true (.int .i64 k)] ∧ k + f = yes.length ∧ ∀ w ∈ yes.take k, DerN id rs 0 w) yes.length (Up.here ⟨rfl, 0, rfl, by omega, by simp⟩) ?_
  rintro f vs Γ ⟨rfl, k, rfl, hkf, hall⟩
  simp -implicitDefEqProofs only [S130_1, go_sem, Nat.reduceBEq, Nat.reduceAdd, Nat.reduceSub, Nat.reduceMul, Nat.reduceLeDiff, reduceCtorEq, ↓reduceIte, Int.reduceLT, Int.reduceLE, Int.reduceEq, Int.reduceNe]
  refine ⟨fun hlt => ?_, fun hge => ?_⟩
  · have hk : k < yes.length := by omega
    obtain ⟨b1, o1, hA1, A2, c2, hs2, hc1⟩ := hy.list hk
    refine s_idx hA1 (by omega) (by omega) ?_
    simp -implicitDefEqProofs only [go_sem, Nat.reduceBEq, Nat.reduceAdd, Nat.reduceSub, Nat.reduceMul, Nat.reduceLeDiff, reduceCtorEq, ↓reduceIte, Int.reduceLT, Int.reduceLE, Int.reduceEq, Int.reduceNe]
    refine s_ld0 (hc1 _ (lk_r _ _)) (by simp) (by simp) ?_
    simp -implicitDefEqProofs only [go_sem, Nat.reduceBEq, Nat.reduceAdd, Nat.reduceSub, Nat.reduceMul, Nat.reduceLeDiff, reduceCtorEq, ↓reduceIte, Int.reduceLT, Int.reduceLE, Int.reduceEq, Int.reduceNe]
    refine CallVC.read (guess_accepts (hx.mono (lk_r _ _)) (hs2.mono (lk_r _ _)) V (hyl _ (List.getElem_mem hk))) ?_
    rintro v Γ' ⟨rfl, q, rfl, hq⟩
    simp -implicitDefEqProofs only [go_sem, Nat.reduceBEq, Nat.reduceAdd, Nat.reduceSub, Nat.reduceMul, Nat.reduceLeDiff, reduceCtorEq, ↓reduceIte, Int.reduceLT, Int.reduceLE, Int.reduceEq, Int.reduceNe]
    simp (disch := omega) only [wrap_id]
    refine ⟨fun h => Up.here ?_, fun h => ?_⟩
    · subst hR
      refine ⟨rfl, false, rfl, ?_⟩
      have : ¬ DerN id rs 0 yes[k] := fun r => by have := hq.2 r; simp_all
      simp only [Bool.false_eq_true, false_iff]
      exact fun r => this (r.1 _ (List.getElem_mem hk))
    · refine ⟨f - 1, by omega, Up.here ⟨rfl, k + 1, rfl, by omega, fun w hw => ?_⟩⟩
      rw [List.take_succ_eq_append_getElem hk] at hw
      rcases List.mem_append.1 hw with hw | hw
      · exact hall w hw
      · simp at hw
        subst hw
        exact hq.1 (by simpa using h)
  have hk : k = yes.length := by omega
  rw [hk, List.take_length] at hall
  refine s_loop (fun f vs Γ => Γ = [] ∧ ∃ k : Nat, vs = [.v true (.int .i64 k)] ∧ k + f = no.length ∧ ∀ w ∈ no.take k, ¬ DerN id rs 0 w) no.length (Up.here ⟨rfl, 0, rfl, by omega, by simp⟩) ?_
  rintro f vs Γ ⟨rfl, k, rfl, hkf, hall2⟩
  simp -implicitDefEqProofs only [S130_2, go_sem, Nat.reduceBEq, Nat.reduceAdd, Nat.reduceSub, Nat.reduceMul, Nat.reduceLeDiff, reduceCtorEq, ↓reduceIte, Int.reduceLT, Int.reduceLE, Int.reduceEq, Int.reduceNe]
  refine ⟨fun hlt => ?_, fun hge => ?_⟩
  · have hk : k < no.length := by omega
    obtain ⟨b1, o1, hA1, A2, c2, hs2, hc1⟩ := hn.list hk
    refine s_idx hA1 (by omega) (by omega) ?_
    simp -implicitDefEqProofs only [go_sem, Nat.reduceBEq, Nat.reduceAdd, Nat.reduceSub, Nat.reduceMul, Nat.reduceLeDiff, reduceCtorEq, ↓reduceIte, Int.reduceLT, Int.reduceLE, Int.reduceEq, Int.reduceNe]
    refine s_ld0 (hc1 _ (lk_r _ _)) (by simp) (by simp) ?_
    simp -implicitDefEqProofs only [go_sem, Nat.reduceBEq, Nat.reduceAdd, Nat.reduceSub, Nat.reduceMul, Nat.reduceLeDiff, reduceCtorEq, ↓reduceIte, Int.reduceLT, Int.reduceLE, Int.reduceEq, Int.reduceNe]
    refine CallVC.read (guess_accepts (hx.mono (lk_r _ _)) (hs2.mono (lk_r _ _)) V (hnl _ (List.getElem_mem hk))) ?_
    rintro v Γ' ⟨rfl, q, rfl, hq⟩
    simp -implicitDefEqProofs only [go_sem, Nat.reduceBEq, Nat.reduceAdd, Nat.reduceSub, Nat.reduceMul, Nat.reduceLeDiff, reduceCtorEq, ↓reduceIte, Int.reduceLT, Int.reduceLE, Int.reduceEq, Int.reduceNe]
    simp (disch := omega) only [wrap_id]
    refine ⟨fun h => Up.here ?_, fun h => ?_⟩
    · subst hR
      refine ⟨rfl, false, rfl, ?_⟩
      simp only [Bool.false_eq_true, false_iff]
      exact fun r => r.2 _ (List.getElem_mem hk) (hq.1 (by simpa using h))
    · refine ⟨f - 1, by omega, Up.here ⟨rfl, k + 1, rfl, by omega, fun w hw => ?_⟩⟩
      rw [List.take_succ_eq_append_getElem hk] at hw
      rcases List.mem_append.1 hw with hw | hw
      · exact hall2 w hw
      · simp at hw
        subst hw
        exact fun r => by have := hq.2 r; simp_all
  have hk : k = no.length := by omega
  rw [hk, List.take_length] at hall2
  refine Up.here ?_
  subst hR
  exact ⟨rfl, true, rfl, by simp only [true_iff]; exact ⟨hall, hall2⟩⟩
end Go.Proofs.Ytniobbepliknmaa.V
/- The text of parlance/guess.Check as a statement (slots: 0 terms, 1 yes, 2 no, 3 terms, 4 yes, 5 no, 7 _, 8 w, 9 _, 10 x, 11 _, 12 w); no condition. -/
namespace Go.Proofs.Ytniobbepliknmaa.V
open Go
def S126_1 : Stmt :=
  Stmt.seq
  (Stmt.region [SOper.mk (some 36) none (SOp.ibin BinOp.lss (Operand.tmp 35) (Operand.tmp 34))]
    [0, 1, 2, 24, 25, 26, 33, 34, 35, 36])
  (Stmt.seq (Stmt.cond (Operand.tmp 36) Stmt.skip (Stmt.exit 2))
    (Stmt.seq
      (Stmt.block 3
        (Stmt.seq
          (Stmt.region
            [SOper.mk (some 37) none (SOp.idx 1 (Operand.tmp 33) (Operand.tmp 35)),
              SOper.mk (some 38) none (SOp.load false 1 (Operand.tmp 37)),
              SOper.mk (some 10) none (SOp.mv (Operand.tmp 38))]
            [0, 1, 2, 10, 24, 25, 26, 33, 34, 35])
          (Stmt.seq
            (Stmt.region
              [SOper.mk (some 39) none (SOp.mv (Operand.tmp 10)),
                SOper.mk (some 40) none (SOp.ibin BinOp.lss (Operand.tmp 39) (Operand.const (Value.int IntKind.i64 0))),
                SOper.mk (some 41) none (SOp.mv (Operand.tmp 40)),
                SOper.mk (some 42) (some (41, false)) (SOp.mv (Operand.tmp 10)),
                SOper.mk (some 43) (some (41, false)) (SOp.mv (Operand.tmp 0)),
                SOper.mk (some 44) (some (41, false)) (SOp.ibin BinOp.geq (Operand.tmp 42) (Operand.tmp 43)),
                SOper.mk (some 45) none (SOp.pick (Operand.tmp 41) (Operand.const (Value.bool true)) (Operand.tmp 44))]
              [0, 1, 2, 24, 25, 26, 33, 34, 35, 45])
            (Stmt.cond (Operand.tmp 45)
              (Stmt.seq (Stmt.region [SOper.mk (some 6) none (SOp.mv (Operand.const (Value.int IntKind.i64 1)))] [6])
                Stmt.ret)
              Stmt.skip))))
      (Stmt.region
        [SOper.mk (some 46) none (SOp.ibin BinOp.add (Operand.tmp 35) (Operand.const (Value.int IntKind.i64 1))),
          SOper.mk (some 35) none (SOp.mv (Operand.tmp 46))]
        [0, 1, 2, 24, 25, 26, 33, 34, 35])))
def S126_2 : Stmt :=
  Stmt.seq
  (Stmt.region [SOper.mk (some 27) none (SOp.ibin BinOp.lss (Operand.tmp 26) (Operand.tmp 25))]
    [0, 1, 2, 24, 25, 26, 27])
  (Stmt.seq (Stmt.cond (Operand.tmp 27) Stmt.skip (Stmt.exit 0))
    (Stmt.seq
      (Stmt.block 1
        (Stmt.seq
          (Stmt.region
            [SOper.mk (some 28) none (SOp.idx 1 (Operand.tmp 24) (Operand.tmp 26)),
              SOper.mk (some 29) none (SOp.load false 1 (Operand.tmp 28)),
              SOper.mk (some 8) none (SOp.mv (Operand.tmp 29))]
            [0, 1, 2, 8, 24, 25, 26])
          (Stmt.seq
            (Stmt.seq
              (Stmt.region
                [SOper.mk (some 30) none (SOp.mv (Operand.tmp 8)),
                  SOper.mk (some 31) none (SOp.len false (Operand.tmp 30)),
                  SOper.mk (some 32) none
                    (SOp.ibin BinOp.gtr (Operand.tmp 31) (Operand.const (Value.int IntKind.i64 5)))]
                [0, 1, 2, 8, 24, 25, 26, 32])
              (Stmt.cond (Operand.tmp 32)
                (Stmt.seq (Stmt.region [SOper.mk (some 6) none (SOp.mv (Operand.const (Value.int IntKind.i64 2)))] [6])
                  Stmt.ret)
                Stmt.skip))
            (Stmt.seq
              (Stmt.region
                [SOper.mk (some 33) none (SOp.mv (Operand.tmp 8)),
                  SOper.mk (some 34) none (SOp.len false (Operand.tmp 33)),
                  SOper.mk (some 35) none (SOp.mv (Operand.const (Value.int IntKind.i64 0)))]
                [0, 1, 2, 24, 25, 26, 33, 34, 35])
              (Stmt.block 2 (Stmt.loop S126_1 [35] [0, 1, 2, 24, 25, 26, 33, 34]))))))
      (Stmt.region
        [SOper.mk (some 47) none (SOp.ibin BinOp.add (Operand.tmp 26) (Operand.const (Value.int IntKind.i64 1))),
          SOper.mk (some 26) none (SOp.mv (Operand.tmp 47))]
        [0, 1, 2, 24, 25, 26])))
def S126_3 : Stmt :=
  Stmt.seq
  (Stmt.region [SOper.mk (some 51) none (SOp.ibin BinOp.lss (Operand.tmp 50) (Operand.tmp 49))] [1, 48, 49, 50, 51])
  (Stmt.seq (Stmt.cond (Operand.tmp 51) Stmt.skip (Stmt.exit 4))
    (Stmt.seq
      (Stmt.block 5
        (Stmt.seq
          (Stmt.region
            [SOper.mk (some 52) none (SOp.idx 1 (Operand.tmp 48) (Operand.tmp 50)),
              SOper.mk (some 53) none (SOp.load false 1 (Operand.tmp 52)),
              SOper.mk (some 12) none (SOp.alloc false 29 (Value.slice none 0 0)),
              SOper.mk none none (SOp.store 1 (Operand.tmp 12) (Operand.tmp 53))]
            [1, 12, 48, 49, 50])
          (Stmt.seq
            (Stmt.region
              [SOper.mk (some 54) none (SOp.mv (Operand.tmp 1)),
                SOper.mk (some 55) none (SOp.mkFunc 177 [Operand.tmp 12]),
                SOper.mk (some 56) none (SOp.call (Operand.func 59) [Operand.tmp 54, Operand.tmp 55])]
              [1, 48, 49, 50, 56])
            (Stmt.cond (Operand.tmp 56)
              (Stmt.seq (Stmt.region [SOper.mk (some 6) none (SOp.mv (Operand.const (Value.int IntKind.i64 8)))] [6])
                Stmt.ret)
              Stmt.skip))))
      (Stmt.region
        [SOper.mk (some 57) none (SOp.ibin BinOp.add (Operand.tmp 50) (Operand.const (Value.int IntKind.i64 1))),
          SOper.mk (some 50) none (SOp.mv (Operand.tmp 57))]
        [1, 48, 49, 50])))
def S126_0 : Stmt :=
  Stmt.seq (Stmt.region [SOper.mk (some 6) none (SOp.mv (Operand.const (Value.int IntKind.i64 0)))] [0, 1, 2])
  (Stmt.seq
    (Stmt.seq
      (Stmt.region
        [SOper.mk (some 13) none (SOp.mv (Operand.tmp 1)), SOper.mk (some 14) none (SOp.len false (Operand.tmp 13)),
          SOper.mk (some 15) none (SOp.ibin BinOp.gtr (Operand.tmp 14) (Operand.const (Value.int IntKind.i64 6))),
          SOper.mk (some 16) none (SOp.mv (Operand.tmp 15)),
          SOper.mk (some 17) (some (16, false)) (SOp.mv (Operand.tmp 2)),
          SOper.mk (some 18) (some (16, false)) (SOp.len false (Operand.tmp 17)),
          SOper.mk (some 19) (some (16, false))
            (SOp.ibin BinOp.gtr (Operand.tmp 18) (Operand.const (Value.int IntKind.i64 6))),
          SOper.mk (some 20) none (SOp.pick (Operand.tmp 16) (Operand.const (Value.bool true)) (Operand.tmp 19))]
        [0, 1, 2, 20])
      (Stmt.cond (Operand.tmp 20)
        (Stmt.seq (Stmt.region [SOper.mk (some 6) none (SOp.mv (Operand.const (Value.int IntKind.i64 2)))] [6])
          Stmt.ret)
        Stmt.skip))
    (Stmt.seq
      (Stmt.seq
        (Stmt.region
          [SOper.mk (some 21) none (SOp.mv (Operand.tmp 1)), SOper.mk (some 22) none (SOp.mv (Operand.tmp 2)),
            SOper.mk (some 23) none
              (SOp.buildS 65 2 [Value.slice none 0 0, Value.slice none 0 0]
                [(0, 1, Operand.tmp 21), (1, 1, Operand.tmp 22)]),
            SOper.mk (some 24) none (SOp.call (Operand.func 58) [Operand.tmp 23]),
            SOper.mk (some 25) none (SOp.len false (Operand.tmp 24)),
            SOper.mk (some 26) none (SOp.mv (Operand.const (Value.int IntKind.i64 0)))]
          [0, 1, 2, 24, 25, 26])
        (Stmt.block 0 (Stmt.loop S126_2 [26] [0, 1, 2, 24, 25])))
      (Stmt.seq
        (Stmt.seq
          (Stmt.region
            [SOper.mk (some 48) none (SOp.mv (Operand.tmp 2)), SOper.mk (some 49) none (SOp.len false (Operand.tmp 48)),
              SOper.mk (some 50) none (SOp.mv (Operand.const (Value.int IntKind.i64 0)))]
            [1, 48, 49, 50])
          (Stmt.block 4 (Stmt.loop S126_3 [50] [1, 48, 49])))
        (Stmt.seq (Stmt.region [SOper.mk (some 6) none (SOp.mv (Operand.const (Value.int IntKind.i64 0)))] [6])
          Stmt.ret))))
def S126 : FnS := ⟨58, [(6, none)], S126_0⟩
theorem tr126 : trFn Try.prog 126 [] [[0, 1, 2], [0, 1, 2, 20], [6], [0, 1, 2, 24, 25, 26], [26], [0, 1, 2, 24, 25], [0, 1, 2, 24, 25, 26, 27], [0, 1, 2, 8, 24, 25, 26], [0, 1, 2, 8, 24, 25, 26, 32], [6], [0, 1, 2, 24, 25, 26, 33, 34, 35], [35], [0, 1, 2, 24, 25, 26, 33, 34], [0, 1, 2, 24, 25, 26, 33, 34, 35, 36], [0, 1, 2, 10, 24, 25, 26, 33, 34, 35], [0, 1, 2, 24, 25, 26, 33, 34, 35, 45], [6], [0, 1, 2, 24, 25, 26, 33, 34, 35], [0, 1, 2, 24, 25, 26], [1, 48, 49, 50], [50], [1, 48, 49], [1, 48, 49, 50, 51], [1, 12, 48, 49, 50], [1, 48, 49, 50, 56], [6], [1, 48, 49, 50], [6]] = some S126 := by kernel_rfl
end Go.Proofs.Ytniobbepliknmaa.V
/- The text of parlance/guess.Check$1 as a statement (slots: 0 v, 2 v); no condition. -/
namespace Go.Proofs.Ytniobbepliknmaa.V
open Go
def S177_0 : Stmt :=
  Stmt.seq (Stmt.region [SOper.mk (some 3) none (SOp.mv (Operand.const (Value.bool false)))] [0, 1])
  (Stmt.seq
    (Stmt.region
      [SOper.mk (some 4) none (SOp.mv (Operand.tmp 0)), SOper.mk (some 5) none (SOp.load false 1 (Operand.tmp 1)),
        SOper.mk (some 6) none (SOp.call (Operand.func 28) [Operand.tmp 4, Operand.tmp 5]),
        SOper.mk (some 3) none (SOp.mv (Operand.tmp 6))]
      [3])
    Stmt.ret)
def S177 : FnS := ⟨7, [(3, none)], S177_0⟩
theorem tr177 : trFn Try.prog 177 [] [[0, 1], [3]] = some S177 := by kernel_rfl
end Go.Proofs.Ytniobbepliknmaa.V
/- The first error of examples: guess.Check; no condition. -/
namespace Go.Proofs.Ytniobbepliknmaa.V
open Go
set_option linter.unusedVariables false
set_option linter.unusedSimpArgs false
attribute [local go_sem] e_seq e_region e_quiet e_join e_loop e_cond e_block e_exit e_ret e_skip e_fin e_kseq e_snrm e_sret e_sex e_bnrm e_bret e_bex e_rnrm e_rret e_res e_condC e_nil e_g e_mv g_mv e_pick g_pick pickC_eq e_ibin g_ibin ibinC_eq e_sbin g_sbin e_beq g_beq beqC_eq e_nilq g_nilq nilqC_sl nilqC_pt nilqC_mp e_un g_un unC_not unC_neg e_conv g_conv convC_eq e_fld g_fld fldC_ref fldC_ptr e_nilCheck g_nilCheck nilCheckC_ref nilCheckC_ptr nilCheckC_fun e_field g_field fieldC_eq e_len g_len lenC_sl lenC_str e_extract g_extract extractC_eq e_mkFunc e_build g_build e_idiv g_idiv idivC_eq e_ishift g_ishift ishiftC_eq e_idx g_idx e_idxA g_idxA e_load g_load loadC_ref loadC_ptr loadB_eq e_slc g_slc e_box boxC_loc boxC_esc e_alloc allocC_loc allocC_esc e_buildS e_store storeC_ref storeC_ptr storeB_eq e_append e_appz e_mk mkC_eq e_call callC_eq e_fn g_fn fnC_eq fnV_min' fnV_max' fnV_rune' e_q g_q e_a e_n g_call g_box g_alloc g_buildS g_store g_append g_mk g_a g_n g_dead e_dead e_callK e_drawn e_tree e_finJ e_tk e_tfin e_tno e_nbt_q e_nbt_qn e_nbt_a e_nbt_an e_nbt_fin e_early_nil e_early_t e_early_f e_nob_nil e_nob_none e_nob_some isBox_dead isBox_v isBox_ref e_dnil e_dk e_ek e_finB vcOps_vc1 e_dcons e_tq e_ekt e_tearly e_talt e_dearly look_nil look_c proj_nil proj_c looks_nil looks_c zip_nil zip_c val_tmp val_const val_func slv_v slv_box slv_ref slot_tmp slot_const slot_func slotL_v slotL_box slotL_ref put_some put_none updBox_c boxSet_box gd_eq slotVals_nil slotVals_c slotVals_b boxV_box boxOn_box slotsOn_nil slotsOn_c slotsOn_b resV_one resV_two vals_nil vals_c allOn_nil allOn_c partOn_nil partOn_c partVals_nil partVals_c fits_nil fits_c fillL_nil fillL_c mkv_one mkv_agg cellsV_agg cellsV_int cellsV_bool cellsV_slice cellsV_string cellsV_pointer cellsV_func cellsV_nilf cellsV_map one'_nil one'_c oc_int oc_bool oc_slice oc_string oc_pointer oc_func oc_nilf oc_map setC_eq iv_add iv_sub iv_mul iv_eql iv_neq iv_lss iv_leq iv_gtr iv_geq iok_add iok_sub iok_mul iok_eql iok_neq iok_lss iok_leq iok_gtr iok_geq pickV_bool args0_nil args0_c bnd_none bnd_some imp_bt imp_bf imp_ebt imp_ebf imp_eb1 imp_np imp_pp beq_tt beq_tf beq_ft beq_ff cond_or cond_and e_round e_meet Int.le_refl Int.toNat_zero decide_true decide_false Bool.or_false Bool.false_or Bool.true_or Bool.or_true Bool.and_false Bool.false_and Bool.bne_false Bool.bne_true beq_iff_eq Int.cast_ofNat_Int not_false_eq_true not_true_eq_false false_and and_false false_implies true_implies true_and and_true Bool.true_and Bool.and_true Bool.not_true Bool.not_false forall_const implies_true List.take_zero List.drop_zero List.take_succ_cons List.drop_succ_cons List.take_nil List.drop_nil List.length_cons List.length_nil List.nil_append List.append_nil List.cons_append Int.toNat_natCast decide_eq_true_eq decide_eq_false_iff_not cond_true cond_false and_self List.getElem?_cons_zero List.getElem?_cons_succ List.set_cons_zero List.set_cons_succ Option.some.injEq exists_eq_left' Nat.zero_add Nat.add_zero Nat.mul_one imp_self true_or or_true or_false false_or Bool.or_eq_true Bool.or_eq_false_iff Bool.and_eq_true Bool.and_eq_false_iff Bool.not_eq_true' Bool.not_eq_false'

/-- the first error of words -/
def badW (t : Int) (x : Int) : Bool := decide (x < 0 ∨ t ≤ x)
def wF (t : Int) : List (List Int) → Int
  | [] => 0
  | w :: r => if 5 < w.length then 2 else if w.any (badW t) then 1 else wF t r
theorem wF_drop {t : Int} {ws : List (List Int)} {k : Nat} (hk : k < ws.length) : wF t (ws.drop k) = if 5 < ws[k].length then 2 else if ws[k].any (badW t) then 1 else wF t (ws.drop (k + 1)) := by
  rw [List.drop_eq_getElem_cons hk]
  rfl
theorem wF_ok {t : Int} {ws : List (List Int)} (h : wF t ws = 0) : ∀ w ∈ ws, w.length ≤ 5 ∧ ∀ x ∈ w, 0 ≤ x ∧ x < t := by
  induction ws with
  | nil => simp
  | cons w r ih =>
    simp only [wF] at h
    split at h
    · cases h
    · split at h
      · cases h
      · rename_i h1 h2
        intro v hv
        rcases List.mem_cons.1 hv with rfl | hv
        · refine ⟨by omega, fun x hx => ?_⟩
          have h3 : ∀ x ∈ v, ¬ badW t x = true := by simpa using h2
          have := h3 x hx
          simp only [badW, decide_eq_true_eq, not_or] at this
          omega
        · exact ih h v hv
/-- the first error of examples -/
def gcF (t : Int) (yes no : List (List Int)) : Int := if 6 < yes.length ∨ 6 < no.length then 2 else if wF t (yes ++ no) ≠ 0 then wF t (yes ++ no) else if no.any (fun w => yes.any fun v => decide (v = w)) then 8 else 0
theorem check_eq {Γr : Ctx} {b : Nat} {W : Option Addr} {T : TypeId} {d : Nat} {w : List Int} (hb : lk Γr b (.cells [Value.slice W w.length d].toArray T (0, 0))) (hw : SlOk (lk Γr) W d w) :
    PredW Γr (.func (.func 177) #[] #[.pointer (some ⟨b, 0, none⟩)]) (fun v => decide (v = w)) := by
  refine ⟨177, #[], #[.pointer (some ⟨b, 0, none⟩)], rfl, fun Γ A c v hΓ hv => ?_⟩
  generalize hR : (fun (v : Value) (Γ : Ctx) => Γ = [] ∧ _) = R
  refine ret_of_vc tr177 (Nat.le_of_ble_eq_true rfl) ?_
  simp -implicitDefEqProofs only [S177, S177_0, List.toList_toArray, go_sem, Nat.reduceBEq, Nat.reduceAdd, Nat.reduceSub, Nat.reduceMul, Nat.reduceLeDiff, reduceCtorEq, ↓reduceIte, Int.reduceLT, Int.reduceLE, Int.reduceEq, Int.reduceNe]
  refine s_ld (o := 0) (j := 0) (cells_lk (hΓ _ _ hb)) (by simp) (by simp) ?_
  simp -implicitDefEqProofs only [go_sem, Nat.reduceBEq, Nat.reduceAdd, Nat.reduceSub, Nat.reduceMul, Nat.reduceLeDiff, reduceCtorEq, ↓reduceIte, Int.reduceLT, Int.reduceLE, Int.reduceEq, Int.reduceNe]
  refine CallVC.read (slices_equal (hv.mono (lk_r _ _)) (hw.mono (hΓ.trans (lk_r _ _)))) ?_
  rintro v Γ' ⟨rfl, rfl⟩
  simp -implicitDefEqProofs only [go_sem, Nat.reduceBEq, Nat.reduceAdd, Nat.reduceSub, Nat.reduceMul, Nat.reduceLeDiff, reduceCtorEq, ↓reduceIte, Int.reduceLT, Int.reduceLE, Int.reduceEq, Int.reduceNe]
  refine Up.here ?_
  subst hR
  exact ⟨rfl, rfl⟩
theorem guess_check {Γr : Ctx} (t : Int) {Y Z : Option Addr} {d e : Nat} {yes no : List (List Int)} (hy : SlOk (lk Γr) Y d yes) (hn : SlOk (lk Γr) Z e no) :
    Ret Try.prog 126 [.int .i64 t, .slice Y yes.length d, .slice Z no.length e] Γr [] (fun v Γ => Γ = [] ∧ v = .int .i64 (gcF t yes no)) := by
  generalize hR : (fun (v : Value) (Γ : Ctx) => Γ = [] ∧ _) = R
  refine ret_of_vc tr126 (Nat.le_of_ble_eq_true rfl) ?_
  have h1 := hy.short
  have h2 := hn.short
  simp -implicitDefEqProofs only [S126, S126_0, go_sem, Nat.reduceBEq, Nat.reduceAdd, Nat.reduceSub, Nat.reduceMul, Nat.reduceLeDiff, reduceCtorEq, ↓reduceIte, Int.reduceLT, Int.reduceLE, Int.reduceEq, Int.reduceNe]
  refine ⟨fun h => Up.here ?_, fun h b0 => ?_⟩
  · subst hR
    exact ⟨rfl, by rw [gcF, if_pos (by omega)]⟩
  have hno : ¬ (6 < yes.length ∨ 6 < no.length) := by omega
  have hlit : SlOk (lk (one b0 (.cells [Value.slice Y yes.length d, Value.slice Z no.length e].toArray 65) :: Γr)) (some ⟨b0, 0, none⟩) 2 [yes, no] :=
    lit_rep2 (cs := [Value.slice Y yes.length d]) (ds := [Value.slice Z no.length e]) yes no lk_head rfl ⟨_, _, rfl, hy.mono (lk_sub fun x hx => by simp [hx])⟩ ⟨_, _, rfl, hn.mono (lk_sub fun x hx => by simp [hx])⟩
  have hfl : [yes, no].flatten = yes ++ no := by simp
  refine CallVC.read (concat_words (xss := [yes, no]) hlit (by rw [hfl, List.length_append]; omega) (by simp)) ?_
  rintro v Γ' ⟨gc, rfl, hB⟩
  rw [hfl] at hB
  obtain ⟨A1, c1, rfl, hs1⟩ := hB.slok (L' := lk ([gc, one b0 (.cells [Value.slice Y yes.length d, Value.slice Z no.length e].toArray 65)] ++ Γr)) (lk_sub (by simp)) (lk_sub fun x hx => by simp at hx ⊢; rcases hx with h | h <;> simp [h]) (by rw [List.length_append]; omega)
  obtain ⟨ws, hws⟩ : ∃ ws, yes ++ no = ws := ⟨_, rfl⟩
  rw [hws] at hs1 ⊢
  have hwl : ws.length ≤ 12 := by rw [← hws, List.length_append]; omega
  simp -implicitDefEqProofs only [go_sem, Nat.reduceBEq, Nat.reduceAdd, Nat.reduceSub, Nat.reduceMul, Nat.reduceLeDiff, reduceCtorEq, ↓reduceIte, Int.reduceLT, Int.reduceLE, Int.reduceEq, Int.reduceNe]
  refine s_loop (fun f vs Γ => Γ = [gc, one b0 (.cells [Value.slice Y yes.length d, Value.slice Z no.length e].toArray 65)] ∧ ∃ k : Nat, vs = [.v true (.int .i64 k)] ∧ k + f = ws.length ∧ wF t ws = wF t (ws.drop k)) ws.length (Up.here ⟨rfl, 0, rfl, by omega, by simp⟩) ?_
  rintro f vs Γ ⟨rfl, k, rfl, hkf, hF⟩
  simp -implicitDefEqProofs only [S126_2, go_sem, Nat.reduceBEq, Nat.reduceAdd, Nat.reduceSub, Nat.reduceMul, Nat.reduceLeDiff, reduceCtorEq, ↓reduceIte, Int.reduceLT, Int.reduceLE, Int.reduceEq, Int.reduceNe]
  refine ⟨fun hlt => ?_, fun hge => ?_⟩
  · have hk : k < ws.length := by omega
    rw [wF_drop hk] at hF
    obtain ⟨b2, o2, hA2, A3, c3, hs3, hc2⟩ := hs1.list hk
    have hsh := hs3.short
    generalize ws[k] = w at *
    refine s_idx hA2 (by omega) (by omega) ?_
    simp -implicitDefEqProofs only [go_sem, Nat.reduceBEq, Nat.reduceAdd, Nat.reduceSub, Nat.reduceMul, Nat.reduceLeDiff, reduceCtorEq, ↓reduceIte, Int.reduceLT, Int.reduceLE, Int.reduceEq, Int.reduceNe]
    refine s_ld0 (hc2 _ (lk_sub (by simp))) (by simp) (by simp) ?_
    simp -implicitDefEqProofs only [go_sem, Nat.reduceBEq, Nat.reduceAdd, Nat.reduceSub, Nat.reduceMul, Nat.reduceLeDiff, reduceCtorEq, ↓reduceIte, Int.reduceLT, Int.reduceLE, Int.reduceEq, Int.reduceNe]
    refine ⟨fun h5 => Up.to [] (Ent.nil _) ?_, fun h5 => ?_⟩
    · subst hR
      rw [if_pos (by omega)] at hF
      exact ⟨rfl, by rw [gcF, if_neg hno, hws, if_pos (by rw [hF]; decide), hF]⟩
    rw [if_neg (by omega)] at hF
    refine s_loop (fun f vs Γ => Γ = [gc, one b0 (.cells [Value.slice Y yes.length d, Value.slice Z no.length e].toArray 65)] ∧ ∃ j : Nat, vs = [.v true (.int .i64 j)] ∧ j + f = w.length ∧ ∀ x ∈ w.take j, badW t x = false) w.length (Up.here ⟨rfl, 0, rfl, by omega, by simp⟩) ?_
    rintro f2 vs Γ ⟨rfl, j, rfl, hjf, hall⟩
    simp -implicitDefEqProofs only [S126_1, go_sem, Nat.reduceBEq, Nat.reduceAdd, Nat.reduceSub, Nat.reduceMul, Nat.reduceLeDiff, reduceCtorEq, ↓reduceIte, Int.reduceLT, Int.reduceLE, Int.reduceEq, Int.reduceNe]
    refine ⟨fun hlt => ?_, fun hge => ?_⟩
    · have hj : j < w.length := by omega
      obtain ⟨b4, o4, hA4, hc4⟩ := hs3.int hj
      refine s_idx hA4 (by omega) (by omega) ?_
      simp -implicitDefEqProofs only [go_sem, Nat.reduceBEq, Nat.reduceAdd, Nat.reduceSub, Nat.reduceMul, Nat.reduceLeDiff, reduceCtorEq, ↓reduceIte, Int.reduceLT, Int.reduceLE, Int.reduceEq, Int.reduceNe]
      refine s_ld0 (hc4 _ (lk_sub (by simp))) (by simp) (by simp) ?_
      simp -implicitDefEqProofs only [go_sem, Nat.reduceBEq, Nat.reduceAdd, Nat.reduceSub, Nat.reduceMul, Nat.reduceLeDiff, reduceCtorEq, ↓reduceIte, Int.reduceLT, Int.reduceLE, Int.reduceEq, Int.reduceNe]
      simp (disch := omega) only [wrap_id]
      refine ⟨fun hb => Up.to [] (Ent.nil _) ?_, fun hb => ⟨f2 - 1, by omega, Up.here ⟨rfl, j + 1, rfl, by omega, fun x hx => ?_⟩⟩⟩
      · subst hR
        have : w.any (badW t) = true := List.any_eq_true.2 ⟨_, List.getElem_mem hj, by simpa [badW] using hb⟩
        rw [if_pos this] at hF
        exact ⟨rfl, by rw [gcF, if_neg hno, hws, if_pos (by rw [hF]; decide), hF]⟩
      · rw [List.take_succ_eq_append_getElem hj] at hx
        rcases List.mem_append.1 hx with hx | hx
        · exact hall x hx
        · simp at hx
          subst hx
          simp only [badW, decide_eq_false_iff_not]
          omega
    · have hj : j = w.length := by omega
      rw [hj, List.take_length] at hall
      have : ¬ w.any (badW t) = true := by simpa using hall
      rw [if_neg this] at hF
      simp (disch := omega) only [wrap_id]
      exact ⟨f - 1, by omega, Up.here ⟨rfl, k + 1, rfl, by omega, hF⟩⟩
  have hk : k = ws.length := by omega
  rw [hk, List.drop_length] at hF
  have hF : wF t ws = 0 := hF
  refine s_loop (fun f vs Γ => ∃ gj, Γ = [gj] ∧ ∃ k : Nat, vs = [.v true (.int .i64 k)] ∧ k + f = no.length ∧ ∀ w ∈ no.take k, yes.any (fun v => decide (v = w)) = false) no.length (Up.one fun gj _ => ⟨gj, rfl, 0, rfl, by omega, by simp⟩) ?_
  rintro f vs Γ ⟨gj, rfl, k, rfl, hkf, hall⟩
  simp -implicitDefEqProofs only [S126_3, go_sem, Nat.reduceBEq, Nat.reduceAdd, Nat.reduceSub, Nat.reduceMul, Nat.reduceLeDiff, reduceCtorEq, ↓reduceIte, Int.reduceLT, Int.reduceLE, Int.reduceEq, Int.reduceNe]
  refine ⟨fun hlt => ?_, fun hge => ?_⟩
  · have hk : k < no.length := by omega
    obtain ⟨b2, o2, hA2, A3, c3, hs3, hc2⟩ := hn.list hk
    have htk : no.take (k + 1) = no.take k ++ [no[k]] := List.take_succ_eq_append_getElem hk
    have hmem := List.getElem_mem hk
    generalize no[k] = w at *
    refine s_idx hA2 (by omega) (by omega) ?_
    simp -implicitDefEqProofs only [go_sem, Nat.reduceBEq, Nat.reduceAdd, Nat.reduceSub, Nat.reduceMul, Nat.reduceLeDiff, reduceCtorEq, ↓reduceIte, Int.reduceLT, Int.reduceLE, Int.reduceEq, Int.reduceNe]
    refine s_ld0 (hc2 _ (lk_r _ _)) (by simp) (by simp) ?_
    simp -implicitDefEqProofs only [go_sem, Nat.reduceBEq, Nat.reduceAdd, Nat.reduceSub, Nat.reduceMul, Nat.reduceLeDiff, reduceCtorEq, ↓reduceIte, Int.reduceLT, Int.reduceLE, Int.reduceEq, Int.reduceNe]
    intro b5
    refine s_storeV (ix := 0) (T := 29) (cs := [Value.slice none 0 0]) rfl (one_self _ _) rfl rfl ?_
    simp -implicitDefEqProofs only [go_sem, Nat.reduceBEq, Nat.reduceAdd, Nat.reduceSub, Nat.reduceMul, Nat.reduceLeDiff, reduceCtorEq, ↓reduceIte, Int.reduceLT, Int.reduceLE, Int.reduceEq, Int.reduceNe]
    generalize hg5 : upd (one b5 _) b5 _ = g5
    have hb5 : g5 b5 = some (.cells [Value.slice A3 w.length c3].toArray 29 (0, 0)) := by subst hg5; exact upd_self _ _ _
    refine CallVC.read (containsFunc_words (hy.mono (lk_r _ _)) (check_eq (T := 29) ⟨g5, by simp, hb5⟩ (hs3.mono (lk_r _ _)))) ?_
    rintro v Γ' ⟨rfl, rfl⟩
    simp -implicitDefEqProofs only [go_sem, Nat.reduceBEq, Nat.reduceAdd, Nat.reduceSub, Nat.reduceMul, Nat.reduceLeDiff, reduceCtorEq, ↓reduceIte, Int.reduceLT, Int.reduceLE, Int.reduceEq, Int.reduceNe]
    simp (disch := omega) only [wrap_id]
    refine ⟨fun hb => Up.to [] (Ent.nil _) ?_, fun hb => ⟨f - 1, by omega, Up.one fun gj _ => ⟨gj, rfl, k + 1, rfl, by omega, fun x hx => ?_⟩⟩⟩
    · subst hR
      refine ⟨rfl, ?_⟩
      rw [gcF, if_neg hno, hws, if_neg (by simp [hF]), if_pos]
      exact List.any_eq_true.2 ⟨w, hmem, hb⟩
    · rw [htk] at hx
      rcases List.mem_append.1 hx with hx | hx
      · exact hall x hx
      · simp at hx
        subst hx
        exact hb
  · have hk : k = no.length := by omega
    rw [hk, List.take_length] at hall
    refine Up.to [] (Ent.nil _) ?_
    subst hR
    refine ⟨rfl, ?_⟩
    rw [gcF, if_neg hno, hws, if_neg (by simp [hF]), if_neg]
    intro q
    obtain ⟨w, h1, h2⟩ := List.any_eq_true.1 q
    rw [hall w h1] at h2
    cases h2
end Go.Proofs.Ytniobbepliknmaa.V
/- The text of parlance/guess.Rules as a statement (slots: 0 terms, 1 nons, 2 terms, 3 nons, 6 syms, 7 i, 8 i, 9 out, 10 a, 11 _, 12 x, 13 _, 14 x, 15 _, 16 y); no condition. -/
namespace Go.Proofs.Ytniobbepliknmaa.V
open Go
def S24_1 : Stmt :=
  Stmt.seq
  (Stmt.region [SOper.mk (some 33) none (SOp.ibin BinOp.lss (Operand.tmp 32) (Operand.tmp 31))] [1, 6, 31, 32, 33])
  (Stmt.seq (Stmt.cond (Operand.tmp 33) Stmt.skip (Stmt.exit 0))
    (Stmt.seq
      (Stmt.block 1
        (Stmt.seq
          (Stmt.region
            [SOper.mk (some 34) none (SOp.mv (Operand.tmp 32)), SOper.mk (some 7) none (SOp.mv (Operand.tmp 34))]
            [1, 6, 7, 31, 32])
          (Stmt.region
            [SOper.mk (some 35) none (SOp.mv (Operand.tmp 6)), SOper.mk (some 36) none (SOp.mv (Operand.tmp 7)),
              SOper.mk (some 37) none
                (SOp.build 39 [Value.bool false, Value.int IntKind.i64 0]
                  [(0, 1, Operand.const (Value.bool true)), (1, 1, Operand.tmp 36)]),
              SOper.mk (some 38) none
                (SOp.buildS 39 1 [Value.bool false, Value.int IntKind.i64 0] [(0, 2, Operand.tmp 37)]),
              SOper.mk (some 39) none
                (SOp.append 35 39 2 16 (Value.agg (Array.mk [Value.bool false, Value.int IntKind.i64 0]))
                  (Operand.tmp 35) (Operand.tmp 38)),
              SOper.mk (some 6) none (SOp.mv (Operand.tmp 39))]
            [1, 6, 31, 32])))
      (Stmt.region
        [SOper.mk (some 40) none (SOp.ibin BinOp.add (Operand.tmp 32) (Operand.const (Value.int IntKind.i64 1))),
          SOper.mk (some 32) none (SOp.mv (Operand.tmp 40))]
        [1, 6, 31, 32])))
def S24_2 : Stmt :=
  Stmt.seq
  (Stmt.region [SOper.mk (some 43) none (SOp.ibin BinOp.lss (Operand.tmp 42) (Operand.tmp 41))] [1, 6, 41, 42, 43])
  (Stmt.seq (Stmt.cond (Operand.tmp 43) Stmt.skip (Stmt.exit 2))
    (Stmt.seq
      (Stmt.block 3
        (Stmt.seq
          (Stmt.region
            [SOper.mk (some 44) none (SOp.mv (Operand.tmp 42)), SOper.mk (some 8) none (SOp.mv (Operand.tmp 44))]
            [1, 6, 8, 41, 42])
          (Stmt.region
            [SOper.mk (some 45) none (SOp.mv (Operand.tmp 6)), SOper.mk (some 46) none (SOp.mv (Operand.tmp 8)),
              SOper.mk (some 47) none
                (SOp.build 39 [Value.bool false, Value.int IntKind.i64 0] [(1, 1, Operand.tmp 46)]),
              SOper.mk (some 48) none
                (SOp.buildS 39 1 [Value.bool false, Value.int IntKind.i64 0] [(0, 2, Operand.tmp 47)]),
              SOper.mk (some 49) none
                (SOp.append 35 39 2 16 (Value.agg (Array.mk [Value.bool false, Value.int IntKind.i64 0]))
                  (Operand.tmp 45) (Operand.tmp 48)),
              SOper.mk (some 6) none (SOp.mv (Operand.tmp 49))]
            [1, 6, 41, 42])))
      (Stmt.region
        [SOper.mk (some 50) none (SOp.ibin BinOp.add (Operand.tmp 42) (Operand.const (Value.int IntKind.i64 1))),
          SOper.mk (some 42) none (SOp.mv (Operand.tmp 50))]
        [1, 6, 41, 42])))
def S24_3 : Stmt :=
  Stmt.seq
  (Stmt.region [SOper.mk (some 63) none (SOp.ibin BinOp.lss (Operand.tmp 62) (Operand.tmp 61))]
    [6, 9, 10, 51, 52, 60, 61, 62, 63])
  (Stmt.seq (Stmt.cond (Operand.tmp 63) Stmt.skip (Stmt.exit 6))
    (Stmt.seq
      (Stmt.block 7
        (Stmt.seq
          (Stmt.region
            [SOper.mk (some 64) none (SOp.idx 2 (Operand.tmp 60) (Operand.tmp 62)),
              SOper.mk (some 65) none (SOp.load true 2 (Operand.tmp 64)),
              SOper.mk (some 12) none
                (SOp.alloc true 39 (Value.agg (Array.mk [Value.bool false, Value.int IntKind.i64 0]))),
              SOper.mk none none (SOp.store 2 (Operand.tmp 12) (Operand.tmp 65))]
            [6, 9, 10, 12, 51, 52, 60, 61, 62])
          (Stmt.region
            [SOper.mk (some 66) none (SOp.mv (Operand.tmp 9)), SOper.mk (some 67) none (SOp.mv (Operand.tmp 10)),
              SOper.mk (some 68) none (SOp.load true 2 (Operand.tmp 12)),
              SOper.mk (some 69) none
                (SOp.buildS 39 1 [Value.bool false, Value.int IntKind.i64 0] [(0, 2, Operand.tmp 68)]),
              SOper.mk (some 70) none
                (SOp.build 37 [Value.int IntKind.i64 0, Value.slice none 0 0]
                  [(0, 1, Operand.tmp 67), (1, 1, Operand.tmp 69)]),
              SOper.mk (some 71) none
                (SOp.buildS 37 1 [Value.int IntKind.i64 0, Value.slice none 0 0] [(0, 2, Operand.tmp 70)]),
              SOper.mk (some 72) none
                (SOp.append 32 37 2 32 (Value.agg (Array.mk [Value.int IntKind.i64 0, Value.slice none 0 0]))
                  (Operand.tmp 66) (Operand.tmp 71)),
              SOper.mk (some 9) none (SOp.mv (Operand.tmp 72))]
            [6, 9, 10, 51, 52, 60, 61, 62])))
      (Stmt.region
        [SOper.mk (some 73) none (SOp.ibin BinOp.add (Operand.tmp 62) (Operand.const (Value.int IntKind.i64 1))),
          SOper.mk (some 62) none (SOp.mv (Operand.tmp 73))]
        [6, 9, 10, 51, 52, 60, 61, 62])))
def S24_4 : Stmt :=
  Stmt.seq
  (Stmt.region [SOper.mk (some 83) none (SOp.ibin BinOp.lss (Operand.tmp 82) (Operand.tmp 81))]
    [6, 9, 10, 14, 51, 52, 74, 75, 76, 80, 81, 82, 83])
  (Stmt.seq (Stmt.cond (Operand.tmp 83) Stmt.skip (Stmt.exit 10))
    (Stmt.seq
      (Stmt.block 11
        (Stmt.seq
          (Stmt.region
            [SOper.mk (some 84) none (SOp.idx 2 (Operand.tmp 80) (Operand.tmp 82)),
              SOper.mk (some 85) none (SOp.load true 2 (Operand.tmp 84)),
              SOper.mk (some 16) none
                (SOp.alloc true 39 (Value.agg (Array.mk [Value.bool false, Value.int IntKind.i64 0]))),
              SOper.mk none none (SOp.store 2 (Operand.tmp 16) (Operand.tmp 85))]
            [6, 9, 10, 14, 16, 51, 52, 74, 75, 76, 80, 81, 82])
          (Stmt.region
            [SOper.mk (some 86) none (SOp.mv (Operand.tmp 9)), SOper.mk (some 87) none (SOp.mv (Operand.tmp 10)),
              SOper.mk (some 88) none (SOp.load true 2 (Operand.tmp 14)),
              SOper.mk (some 89) none (SOp.load true 2 (Operand.tmp 16)),
              SOper.mk (some 90) none
                (SOp.buildS 39 2 [Value.bool false, Value.int IntKind.i64 0, Value.bool false, Value.int IntKind.i64 0]
                  [(0, 2, Operand.tmp 88), (2, 2, Operand.tmp 89)]),
              SOper.mk (some 91) none
                (SOp.build 37 [Value.int IntKind.i64 0, Value.slice none 0 0]
                  [(0, 1, Operand.tmp 87), (1, 1, Operand.tmp 90)]),
              SOper.mk (some 92) none
                (SOp.buildS 37 1 [Value.int IntKind.i64 0, Value.slice none 0 0] [(0, 2, Operand.tmp 91)]),
              SOper.mk (some 93) none
                (SOp.append 32 37 2 32 (Value.agg (Array.mk [Value.int IntKind.i64 0, Value.slice none 0 0]))
                  (Operand.tmp 86) (Operand.tmp 92)),
              SOper.mk (some 9) none (SOp.mv (Operand.tmp 93))]
            [6, 9, 10, 14, 51, 52, 74, 75, 76, 80, 81, 82])))
      (Stmt.region
        [SOper.mk (some 94) none (SOp.ibin BinOp.add (Operand.tmp 82) (Operand.const (Value.int IntKind.i64 1))),
          SOper.mk (some 82) none (SOp.mv (Operand.tmp 94))]
        [6, 9, 10, 14, 51, 52, 74, 75, 76, 80, 81, 82])))
def S24_5 : Stmt :=
  Stmt.seq
  (Stmt.region [SOper.mk (some 77) none (SOp.ibin BinOp.lss (Operand.tmp 76) (Operand.tmp 75))]
    [6, 9, 10, 51, 52, 74, 75, 76, 77])
  (Stmt.seq (Stmt.cond (Operand.tmp 77) Stmt.skip (Stmt.exit 8))
    (Stmt.seq
      (Stmt.block 9
        (Stmt.seq
          (Stmt.region
            [SOper.mk (some 78) none (SOp.idx 2 (Operand.tmp 74) (Operand.tmp 76)),
              SOper.mk (some 79) none (SOp.load true 2 (Operand.tmp 78)),
              SOper.mk (some 14) none
                (SOp.alloc true 39 (Value.agg (Array.mk [Value.bool false, Value.int IntKind.i64 0]))),
              SOper.mk none none (SOp.store 2 (Operand.tmp 14) (Operand.tmp 79))]
            [6, 9, 10, 14, 51, 52, 74, 75, 76])
          (Stmt.seq
            (Stmt.region
              [SOper.mk (some 80) none (SOp.mv (Operand.tmp 6)),
                SOper.mk (some 81) none (SOp.len false (Operand.tmp 80)),
                SOper.mk (some 82) none (SOp.mv (Operand.const (Value.int IntKind.i64 0)))]
              [6, 9, 10, 14, 51, 52, 74, 75, 76, 80, 81, 82])
            (Stmt.block 10 (Stmt.loop S24_4 [9, 82] [6, 10, 14, 51, 52, 74, 75, 76, 80, 81])))))
      (Stmt.region
        [SOper.mk (some 95) none (SOp.ibin BinOp.add (Operand.tmp 76) (Operand.const (Value.int IntKind.i64 1))),
          SOper.mk (some 76) none (SOp.mv (Operand.tmp 95))]
        [6, 9, 10, 51, 52, 74, 75, 76])))
def S24_6 : Stmt :=
  Stmt.seq
  (Stmt.region [SOper.mk (some 53) none (SOp.ibin BinOp.lss (Operand.tmp 52) (Operand.tmp 51))] [6, 9, 51, 52, 53])
  (Stmt.seq (Stmt.cond (Operand.tmp 53) Stmt.skip (Stmt.exit 4))
    (Stmt.seq
      (Stmt.block 5
        (Stmt.seq
          (Stmt.region
            [SOper.mk (some 54) none (SOp.mv (Operand.tmp 52)), SOper.mk (some 10) none (SOp.mv (Operand.tmp 54))]
            [6, 9, 10, 51, 52])
          (Stmt.seq
            (Stmt.region
              [SOper.mk (some 55) none (SOp.mv (Operand.tmp 9)), SOper.mk (some 56) none (SOp.mv (Operand.tmp 10)),
                SOper.mk (some 57) none
                  (SOp.build 37 [Value.int IntKind.i64 0, Value.slice none 0 0] [(0, 1, Operand.tmp 56)]),
                SOper.mk (some 58) none
                  (SOp.buildS 37 1 [Value.int IntKind.i64 0, Value.slice none 0 0] [(0, 2, Operand.tmp 57)]),
                SOper.mk (some 59) none
                  (SOp.append 32 37 2 32 (Value.agg (Array.mk [Value.int IntKind.i64 0, Value.slice none 0 0]))
                    (Operand.tmp 55) (Operand.tmp 58)),
                SOper.mk (some 9) none (SOp.mv (Operand.tmp 59))]
              [6, 9, 10, 51, 52])
            (Stmt.seq
              (Stmt.seq
                (Stmt.region
                  [SOper.mk (some 60) none (SOp.mv (Operand.tmp 6)),
                    SOper.mk (some 61) none (SOp.len false (Operand.tmp 60)),
                    SOper.mk (some 62) none (SOp.mv (Operand.const (Value.int IntKind.i64 0)))]
                  [6, 9, 10, 51, 52, 60, 61, 62])
                (Stmt.block 6 (Stmt.loop S24_3 [9, 62] [6, 10, 51, 52, 60, 61])))
              (Stmt.seq
                (Stmt.region
                  [SOper.mk (some 74) none (SOp.mv (Operand.tmp 6)),
                    SOper.mk (some 75) none (SOp.len false (Operand.tmp 74)),
                    SOper.mk (some 76) none (SOp.mv (Operand.const (Value.int IntKind.i64 0)))]
                  [6, 9, 10, 51, 52, 74, 75, 76])
                (Stmt.block 8 (Stmt.loop S24_5 [9, 76] [6, 10, 51, 52, 74, 75])))))))
      (Stmt.region
        [SOper.mk (some 96) none (SOp.ibin BinOp.add (Operand.tmp 52) (Operand.const (Value.int IntKind.i64 1))),
          SOper.mk (some 52) none (SOp.mv (Operand.tmp 96))]
        [6, 9, 51, 52])))
def S24_0 : Stmt :=
  Stmt.seq
  (Stmt.region
    [SOper.mk (some 4) none (SOp.mv (Operand.const (Value.slice none 0 0))),
      SOper.mk (some 5) none (SOp.mv (Operand.const (Value.int IntKind.i64 0)))]
    [0, 1])
  (Stmt.seq
    (Stmt.seq
      (Stmt.region
        [SOper.mk (some 17) none (SOp.mv (Operand.tmp 0)),
          SOper.mk (some 18) none (SOp.ibin BinOp.lss (Operand.tmp 17) (Operand.const (Value.int IntKind.i64 1))),
          SOper.mk (some 19) none (SOp.mv (Operand.tmp 18)),
          SOper.mk (some 20) (some (19, false)) (SOp.mv (Operand.tmp 0)),
          SOper.mk (some 21) (some (19, false))
            (SOp.ibin BinOp.gtr (Operand.tmp 20) (Operand.const (Value.int IntKind.i64 2))),
          SOper.mk (some 22) none (SOp.pick (Operand.tmp 19) (Operand.const (Value.bool true)) (Operand.tmp 21)),
          SOper.mk (some 23) none (SOp.mv (Operand.tmp 22)),
          SOper.mk (some 24) (some (23, false)) (SOp.mv (Operand.tmp 1)),
          SOper.mk (some 25) (some (23, false))
            (SOp.ibin BinOp.lss (Operand.tmp 24) (Operand.const (Value.int IntKind.i64 1))),
          SOper.mk (some 26) none (SOp.pick (Operand.tmp 23) (Operand.const (Value.bool true)) (Operand.tmp 25)),
          SOper.mk (some 27) none (SOp.mv (Operand.tmp 26)),
          SOper.mk (some 28) (some (27, false)) (SOp.mv (Operand.tmp 1)),
          SOper.mk (some 29) (some (27, false))
            (SOp.ibin BinOp.gtr (Operand.tmp 28) (Operand.const (Value.int IntKind.i64 2))),
          SOper.mk (some 30) none (SOp.pick (Operand.tmp 27) (Operand.const (Value.bool true)) (Operand.tmp 29))]
        [0, 1, 30])
      (Stmt.cond (Operand.tmp 30)
        (Stmt.seq
          (Stmt.region
            [SOper.mk (some 4) none (SOp.mv (Operand.const (Value.slice none 0 0))),
              SOper.mk (some 5) none (SOp.mv (Operand.const (Value.int IntKind.i64 1)))]
            [4, 5])
          Stmt.ret)
        Stmt.skip))
    (Stmt.seq (Stmt.region [SOper.mk (some 6) none (SOp.mv (Operand.const (Value.slice none 0 0)))] [0, 1, 6])
      (Stmt.seq
        (Stmt.seq
          (Stmt.region
            [SOper.mk (some 31) none (SOp.mv (Operand.tmp 0)),
              SOper.mk (some 32) none (SOp.mv (Operand.const (Value.int IntKind.i64 0)))]
            [1, 6, 31, 32])
          (Stmt.block 0 (Stmt.loop S24_1 [6, 32] [1, 31])))
        (Stmt.seq
          (Stmt.seq
            (Stmt.region
              [SOper.mk (some 41) none (SOp.mv (Operand.tmp 1)),
                SOper.mk (some 42) none (SOp.mv (Operand.const (Value.int IntKind.i64 0)))]
              [1, 6, 41, 42])
            (Stmt.block 2 (Stmt.loop S24_2 [6, 42] [1, 41])))
          (Stmt.seq (Stmt.region [SOper.mk (some 9) none (SOp.mv (Operand.const (Value.slice none 0 0)))] [1, 6, 9])
            (Stmt.seq
              (Stmt.seq
                (Stmt.region
                  [SOper.mk (some 51) none (SOp.mv (Operand.tmp 1)),
                    SOper.mk (some 52) none (SOp.mv (Operand.const (Value.int IntKind.i64 0)))]
                  [6, 9, 51, 52])
                (Stmt.block 4 (Stmt.loop S24_6 [9, 52] [6, 51])))
              (Stmt.seq
                (Stmt.region
                  [SOper.mk (some 97) none (SOp.mv (Operand.tmp 9)), SOper.mk (some 4) none (SOp.mv (Operand.tmp 97)),
                    SOper.mk (some 5) none (SOp.mv (Operand.const (Value.int IntKind.i64 0)))]
                  [4, 5])
                Stmt.ret)))))))
def S24 : FnS := ⟨98, [(4, none), (5, none)], S24_0⟩
theorem tr24 : trFn Try.prog 24 [12, 14, 16] [[0, 1], [0, 1, 30], [4, 5], [0, 1, 6], [1, 6, 31, 32], [6, 32], [1, 31], [1, 6, 31, 32, 33], [1, 6, 7, 31, 32], [1, 6, 31, 32], [1, 6, 31, 32], [1, 6, 41, 42], [6, 42], [1, 41], [1, 6, 41, 42, 43], [1, 6, 8, 41, 42], [1, 6, 41, 42], [1, 6, 41, 42], [1, 6, 9], [6, 9, 51, 52], [9, 52], [6, 51], [6, 9, 51, 52, 53], [6, 9, 10, 51, 52], [6, 9, 10, 51, 52], [6, 9, 10, 51, 52, 60, 61, 62], [9, 62], [6, 10, 51, 52, 60, 61], [6, 9, 10, 51, 52, 60, 61, 62, 63], [6, 9, 10, 12, 51, 52, 60, 61, 62], [6, 9, 10, 51, 52, 60, 61, 62], [6, 9, 10, 51, 52, 60, 61, 62], [6, 9, 10, 51, 52, 74, 75, 76], [9, 76], [6, 10, 51, 52, 74, 75], [6, 9, 10, 51, 52, 74, 75, 76, 77], [6, 9, 10, 14, 51, 52, 74, 75, 76], [6, 9, 10, 14, 51, 52, 74, 75, 76, 80, 81, 82], [9, 82], [6, 10, 14, 51, 52, 74, 75, 76, 80, 81], [6, 9, 10, 14, 51, 52, 74, 75, 76, 80, 81, 82, 83], [6, 9, 10, 14, 16, 51, 52, 74, 75, 76, 80, 81, 82], [6, 9, 10, 14, 51, 52, 74, 75, 76, 80, 81, 82], [6, 9, 10, 14, 51, 52, 74, 75, 76, 80, 81, 82], [6, 9, 10, 51, 52, 74, 75, 76], [6, 9, 51, 52], [4, 5]] = some S24 := by kernel_rfl
end Go.Proofs.Ytniobbepliknmaa.V
