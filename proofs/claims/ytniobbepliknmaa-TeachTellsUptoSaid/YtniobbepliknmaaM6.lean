/- Texts put together, in the order in which they build; each says what it proves; no condition. -/
import Derived.Test.YtniobbepliknmaaM2
import Derived.Test.YtniobbepliknmaaProg
import Derived.Test.YtniobbepliknmaaM5
import Derived.Test.YtniobbepliknmaaM3
/- The text of parlance/parlref5.Apart as a statement (slots: 0 x, 1 y, 2 x, 3 y, 6 n, 7 m, 8 good, 9 go1, 10 far, 11 a, 12 b, 13 again, 14 a, 15 b, 16 c, 17 k, 18 a, 19 b, 20 out, 21 c, 22 p, 23 q); no condition. -/
namespace Go.Proofs.Ytniobbepliknmaa.V
open Go
def S53_1 : Stmt :=
  Stmt.block 3
  (Stmt.seq
    (Stmt.region [SOper.mk (some 47) none (SOp.mv (Operand.tmp 45)), SOper.mk (some 12) none (SOp.mv (Operand.tmp 47))]
      [2, 3, 8, 9, 10, 11, 12, 36, 37, 44, 45])
    (Stmt.seq
      (Stmt.region
        [SOper.mk (some 48) none (SOp.mv (Operand.tmp 10)), SOper.mk (some 49) none (SOp.mv (Operand.tmp 11)),
          SOper.mk (some 50) none (SOp.idx 1 (Operand.tmp 48) (Operand.tmp 49)),
          SOper.mk (some 51) none (SOp.load false 1 (Operand.tmp 50)),
          SOper.mk (some 52) none (SOp.mv (Operand.tmp 12)),
          SOper.mk (some 53) none (SOp.idx 1 (Operand.tmp 51) (Operand.tmp 52)),
          SOper.mk none none (SOp.store 1 (Operand.tmp 53) (Operand.const (Value.int IntKind.i64 1099511627776)))]
        [2, 3, 8, 9, 10, 11, 12, 36, 37, 44, 45])
      (Stmt.seq
        (Stmt.drawn
          [(false, SOper.mk (some 54) none (SOp.mv (Operand.tmp 8))),
            (false, SOper.mk (some 55) none (SOp.load true 3 (Operand.tmp 2))),
            (false, SOper.mk (some 56) none (SOp.mv (Operand.tmp 11))),
            (false, SOper.mk (some 58) none (SOp.mv (Operand.tmp 8))),
            (true, SOper.mk (some 59) none (SOp.load true 3 (Operand.tmp 3))),
            (false, SOper.mk (some 60) none (SOp.mv (Operand.tmp 12))),
            (false, SOper.mk (some 57) none (SOp.call (Operand.tmp 54) [Operand.tmp 55, Operand.tmp 56])),
            (false, SOper.mk (some 61) none (SOp.call (Operand.tmp 58) [Operand.tmp 59, Operand.tmp 60])),
            (false, SOper.mk (some 62) none (SOp.beq true (Operand.tmp 57) (Operand.tmp 61)))]
          [2, 3, 8, 9, 10, 11, 12, 36, 37, 44, 45, 62])
        (Stmt.cond (Operand.tmp 62)
          (Stmt.region
            [SOper.mk (some 63) none (SOp.mv (Operand.tmp 10)), SOper.mk (some 64) none (SOp.mv (Operand.tmp 11)),
              SOper.mk (some 65) none (SOp.idx 1 (Operand.tmp 63) (Operand.tmp 64)),
              SOper.mk (some 66) none (SOp.load false 1 (Operand.tmp 65)),
              SOper.mk (some 67) none (SOp.mv (Operand.tmp 12)),
              SOper.mk (some 68) none (SOp.idx 1 (Operand.tmp 66) (Operand.tmp 67)),
              SOper.mk none none (SOp.store 1 (Operand.tmp 68) (Operand.const (Value.int IntKind.i64 0)))]
            [2, 3, 8, 9, 10, 11, 36, 37, 44, 45])
          Stmt.skip))))
def S53_2 : Stmt :=
  Stmt.region
  [SOper.mk (some 69) none (SOp.ibin BinOp.add (Operand.tmp 45) (Operand.const (Value.int IntKind.i64 1))),
    SOper.mk (some 45) none (SOp.mv (Operand.tmp 69))]
  [2, 3, 8, 9, 10, 11, 36, 37, 44, 45]
def S53_3 : Stmt :=
  Stmt.seq
  (Stmt.region [SOper.mk (some 46) none (SOp.ibin BinOp.lss (Operand.tmp 45) (Operand.tmp 44))]
    [2, 3, 8, 9, 10, 11, 36, 37, 44, 45, 46])
  (Stmt.seq (Stmt.cond (Operand.tmp 46) Stmt.skip (Stmt.exit 2))
    (Stmt.join S53_1 S53_2 [] [2, 3, 8, 9, 10, 11, 36, 37, 44, 45]))
def S53_4 : Stmt :=
  Stmt.seq
  (Stmt.region [SOper.mk (some 38) none (SOp.ibin BinOp.lss (Operand.tmp 37) (Operand.tmp 36))]
    [2, 3, 8, 9, 10, 36, 37, 38])
  (Stmt.seq (Stmt.cond (Operand.tmp 38) Stmt.skip (Stmt.exit 0))
    (Stmt.seq
      (Stmt.block 1
        (Stmt.seq
          (Stmt.region
            [SOper.mk (some 39) none (SOp.mv (Operand.tmp 37)), SOper.mk (some 11) none (SOp.mv (Operand.tmp 39))]
            [2, 3, 8, 9, 10, 11, 36, 37])
          (Stmt.seq
            (Stmt.region
              [SOper.mk (some 40) none (SOp.mv (Operand.tmp 10)), SOper.mk (some 41) none (SOp.mv (Operand.tmp 11)),
                SOper.mk (some 42) none (SOp.idx 1 (Operand.tmp 40) (Operand.tmp 41)),
                SOper.mk (some 43) none (SOp.load false 1 (Operand.tmp 42)),
                SOper.mk (some 44) none (SOp.len false (Operand.tmp 43)),
                SOper.mk (some 45) none (SOp.mv (Operand.const (Value.int IntKind.i64 0)))]
              [2, 3, 8, 9, 10, 11, 36, 37, 44, 45])
            (Stmt.block 2 (Stmt.loop S53_3 [45] [2, 3, 8, 9, 10, 11, 36, 37, 44])))))
      (Stmt.region
        [SOper.mk (some 70) none (SOp.ibin BinOp.add (Operand.tmp 37) (Operand.const (Value.int IntKind.i64 1))),
          SOper.mk (some 37) none (SOp.mv (Operand.tmp 70))]
        [2, 3, 8, 9, 10, 36, 37])))
def S53_5 : Stmt :=
  Stmt.block 11
  (Stmt.seq
    (Stmt.region [SOper.mk (some 92) none (SOp.mv (Operand.tmp 90)), SOper.mk (some 16) none (SOp.mv (Operand.tmp 92))]
      [2, 3, 9, 10, 13, 14, 15, 16, 73, 74, 81, 82, 89, 90])
    (Stmt.seq
      (Stmt.drawn
        [(false, SOper.mk (some 93) none (SOp.mv (Operand.tmp 10))),
          (false, SOper.mk (some 94) none (SOp.mv (Operand.tmp 9))),
          (false, SOper.mk (some 95) none (SOp.load true 3 (Operand.tmp 2))),
          (false, SOper.mk (some 96) none (SOp.mv (Operand.tmp 14))),
          (false, SOper.mk (some 97) none (SOp.mv (Operand.tmp 16))),
          (false, SOper.mk (some 101) none (SOp.mv (Operand.tmp 9))),
          (true, SOper.mk (some 102) none (SOp.load true 3 (Operand.tmp 3))),
          (false, SOper.mk (some 103) none (SOp.mv (Operand.tmp 15))),
          (false, SOper.mk (some 104) none (SOp.mv (Operand.tmp 16))),
          (false, SOper.mk (some 98) none (SOp.call (Operand.tmp 94) [Operand.tmp 95, Operand.tmp 96, Operand.tmp 97])),
          (false, SOper.mk (some 99) none (SOp.idx 1 (Operand.tmp 93) (Operand.tmp 98))),
          (true, SOper.mk (some 100) none (SOp.load false 1 (Operand.tmp 99))),
          (false,
            SOper.mk (some 105) none (SOp.call (Operand.tmp 101) [Operand.tmp 102, Operand.tmp 103, Operand.tmp 104])),
          (false, SOper.mk (some 106) none (SOp.idx 1 (Operand.tmp 100) (Operand.tmp 105))),
          (false, SOper.mk (some 107) none (SOp.load false 1 (Operand.tmp 106))),
          (false,
            SOper.mk (some 108) none (SOp.ibin BinOp.add (Operand.tmp 107) (Operand.const (Value.int IntKind.i64 1)))),
          (false, SOper.mk (some 17) none (SOp.mv (Operand.tmp 108)))]
        [2, 3, 9, 10, 13, 14, 15, 17, 73, 74, 81, 82, 89, 90])
      (Stmt.seq
        (Stmt.region
          [SOper.mk (some 109) none (SOp.mv (Operand.tmp 17)), SOper.mk (some 110) none (SOp.mv (Operand.tmp 10)),
            SOper.mk (some 111) none (SOp.mv (Operand.tmp 14)),
            SOper.mk (some 112) none (SOp.idx 1 (Operand.tmp 110) (Operand.tmp 111)),
            SOper.mk (some 113) none (SOp.load false 1 (Operand.tmp 112)),
            SOper.mk (some 114) none (SOp.mv (Operand.tmp 15)),
            SOper.mk (some 115) none (SOp.idx 1 (Operand.tmp 113) (Operand.tmp 114)),
            SOper.mk (some 116) none (SOp.load false 1 (Operand.tmp 115)),
            SOper.mk (some 117) none (SOp.ibin BinOp.lss (Operand.tmp 109) (Operand.tmp 116))]
          [2, 3, 9, 10, 13, 14, 15, 17, 73, 74, 81, 82, 89, 90, 117])
        (Stmt.cond (Operand.tmp 117)
          (Stmt.region
            [SOper.mk (some 118) none (SOp.mv (Operand.tmp 10)), SOper.mk (some 119) none (SOp.mv (Operand.tmp 14)),
              SOper.mk (some 120) none (SOp.idx 1 (Operand.tmp 118) (Operand.tmp 119)),
              SOper.mk (some 121) none (SOp.load false 1 (Operand.tmp 120)),
              SOper.mk (some 122) none (SOp.mv (Operand.tmp 15)), SOper.mk (some 123) none (SOp.mv (Operand.tmp 17)),
              SOper.mk (some 124) none (SOp.idx 1 (Operand.tmp 121) (Operand.tmp 122)),
              SOper.mk none none (SOp.store 1 (Operand.tmp 124) (Operand.tmp 123)),
              SOper.mk (some 13) none (SOp.mv (Operand.const (Value.bool true)))]
            [2, 3, 9, 10, 13, 14, 15, 73, 74, 81, 82, 89, 90])
          Stmt.skip))))
def S53_6 : Stmt :=
  Stmt.region
  [SOper.mk (some 125) none (SOp.ibin BinOp.add (Operand.tmp 90) (Operand.const (Value.int IntKind.i64 1))),
    SOper.mk (some 90) none (SOp.mv (Operand.tmp 125))]
  [2, 3, 9, 10, 13, 14, 15, 73, 74, 81, 82, 89, 90]
def S53_7 : Stmt :=
  Stmt.seq
  (Stmt.region [SOper.mk (some 91) none (SOp.ibin BinOp.lss (Operand.tmp 90) (Operand.tmp 89))]
    [2, 3, 9, 10, 13, 14, 15, 73, 74, 81, 82, 89, 90, 91])
  (Stmt.seq (Stmt.cond (Operand.tmp 91) Stmt.skip (Stmt.exit 10))
    (Stmt.join S53_5 S53_6 [13] [2, 3, 9, 10, 14, 15, 73, 74, 81, 82, 89, 90]))
def S53_8 : Stmt :=
  Stmt.seq
  (Stmt.region [SOper.mk (some 83) none (SOp.ibin BinOp.lss (Operand.tmp 82) (Operand.tmp 81))]
    [2, 3, 9, 10, 13, 14, 73, 74, 81, 82, 83])
  (Stmt.seq (Stmt.cond (Operand.tmp 83) Stmt.skip (Stmt.exit 8))
    (Stmt.seq
      (Stmt.block 9
        (Stmt.seq
          (Stmt.region
            [SOper.mk (some 84) none (SOp.mv (Operand.tmp 82)), SOper.mk (some 15) none (SOp.mv (Operand.tmp 84))]
            [2, 3, 9, 10, 13, 14, 15, 73, 74, 81, 82])
          (Stmt.seq
            (Stmt.region
              [SOper.mk (some 85) none (SOp.fld 2 (Operand.tmp 2)),
                SOper.mk (some 86) none (SOp.load false 1 (Operand.tmp 85)),
                SOper.mk (some 87) none (SOp.idx 1 (Operand.tmp 86) (Operand.const (Value.int IntKind.i64 0))),
                SOper.mk (some 88) none (SOp.load false 1 (Operand.tmp 87)),
                SOper.mk (some 89) none (SOp.len false (Operand.tmp 88)),
                SOper.mk (some 90) none (SOp.mv (Operand.const (Value.int IntKind.i64 0)))]
              [2, 3, 9, 10, 13, 14, 15, 73, 74, 81, 82, 89, 90])
            (Stmt.block 10 (Stmt.loop S53_7 [13, 90] [2, 3, 9, 10, 14, 15, 73, 74, 81, 82, 89])))))
      (Stmt.region
        [SOper.mk (some 126) none (SOp.ibin BinOp.add (Operand.tmp 82) (Operand.const (Value.int IntKind.i64 1))),
          SOper.mk (some 82) none (SOp.mv (Operand.tmp 126))]
        [2, 3, 9, 10, 13, 14, 73, 74, 81, 82])))
def S53_9 : Stmt :=
  Stmt.seq
  (Stmt.region [SOper.mk (some 75) none (SOp.ibin BinOp.lss (Operand.tmp 74) (Operand.tmp 73))]
    [2, 3, 9, 10, 13, 73, 74, 75])
  (Stmt.seq (Stmt.cond (Operand.tmp 75) Stmt.skip (Stmt.exit 6))
    (Stmt.seq
      (Stmt.block 7
        (Stmt.seq
          (Stmt.region
            [SOper.mk (some 76) none (SOp.mv (Operand.tmp 74)), SOper.mk (some 14) none (SOp.mv (Operand.tmp 76))]
            [2, 3, 9, 10, 13, 14, 73, 74])
          (Stmt.seq
            (Stmt.region
              [SOper.mk (some 77) none (SOp.mv (Operand.tmp 10)), SOper.mk (some 78) none (SOp.mv (Operand.tmp 14)),
                SOper.mk (some 79) none (SOp.idx 1 (Operand.tmp 77) (Operand.tmp 78)),
                SOper.mk (some 80) none (SOp.load false 1 (Operand.tmp 79)),
                SOper.mk (some 81) none (SOp.len false (Operand.tmp 80)),
                SOper.mk (some 82) none (SOp.mv (Operand.const (Value.int IntKind.i64 0)))]
              [2, 3, 9, 10, 13, 14, 73, 74, 81, 82])
            (Stmt.block 8 (Stmt.loop S53_8 [13, 82] [2, 3, 9, 10, 14, 73, 74, 81])))))
      (Stmt.region
        [SOper.mk (some 127) none (SOp.ibin BinOp.add (Operand.tmp 74) (Operand.const (Value.int IntKind.i64 1))),
          SOper.mk (some 74) none (SOp.mv (Operand.tmp 127))]
        [2, 3, 9, 10, 13, 73, 74])))
def S53_10 : Stmt :=
  Stmt.seq
  (Stmt.seq (Stmt.region [SOper.mk (some 71) none (SOp.mv (Operand.tmp 13))] [2, 3, 9, 10, 71])
    (Stmt.cond (Operand.tmp 71) Stmt.skip (Stmt.exit 4)))
  (Stmt.block 5
    (Stmt.seq (Stmt.region [SOper.mk (some 13) none (SOp.mv (Operand.const (Value.bool false)))] [2, 3, 9, 10, 13])
      (Stmt.seq
        (Stmt.region
          [SOper.mk (some 72) none (SOp.mv (Operand.tmp 10)), SOper.mk (some 73) none (SOp.len false (Operand.tmp 72)),
            SOper.mk (some 74) none (SOp.mv (Operand.const (Value.int IntKind.i64 0)))]
          [2, 3, 9, 10, 13, 73, 74])
        (Stmt.block 6 (Stmt.loop S53_9 [13, 74] [2, 3, 9, 10, 73])))))
def S53_11 : Stmt :=
  Stmt.seq
  (Stmt.region [SOper.mk (some 154) none (SOp.ibin BinOp.lss (Operand.tmp 153) (Operand.tmp 152))]
    [2, 3, 9, 10, 18, 19, 20, 152, 153, 154])
  (Stmt.seq (Stmt.cond (Operand.tmp 154) Stmt.skip (Stmt.exit 14))
    (Stmt.seq
      (Stmt.block 15
        (Stmt.seq
          (Stmt.region
            [SOper.mk (some 155) none (SOp.mv (Operand.tmp 153)), SOper.mk (some 21) none (SOp.mv (Operand.tmp 155))]
            [2, 3, 9, 10, 18, 19, 20, 21, 152, 153])
          (Stmt.seq
            (Stmt.drawn
              [(false, SOper.mk (some 156) none (SOp.mv (Operand.tmp 9))),
                (false, SOper.mk (some 157) none (SOp.load true 3 (Operand.tmp 2))),
                (false, SOper.mk (some 158) none (SOp.mv (Operand.tmp 18))),
                (false, SOper.mk (some 159) none (SOp.mv (Operand.tmp 21))),
                (false, SOper.mk (some 161) none (SOp.mv (Operand.tmp 9))),
                (true, SOper.mk (some 162) none (SOp.load true 3 (Operand.tmp 3))),
                (false, SOper.mk (some 163) none (SOp.mv (Operand.tmp 19))),
                (false, SOper.mk (some 164) none (SOp.mv (Operand.tmp 21))),
                (false,
                  SOper.mk (some 160) none
                    (SOp.call (Operand.tmp 156) [Operand.tmp 157, Operand.tmp 158, Operand.tmp 159])),
                (false,
                  SOper.mk (some 165) none
                    (SOp.call (Operand.tmp 161) [Operand.tmp 162, Operand.tmp 163, Operand.tmp 164])),
                (false, SOper.mk (some 22) none (SOp.mv (Operand.tmp 160))),
                (false, SOper.mk (some 23) none (SOp.mv (Operand.tmp 165)))]
              [2, 3, 9, 10, 18, 19, 20, 21, 22, 23, 152, 153])
            (Stmt.seq
              (Stmt.quiet
                [SOper.mk (some 166) none (SOp.mv (Operand.tmp 10)), SOper.mk (some 167) none (SOp.mv (Operand.tmp 22)),
                  SOper.mk (some 168) none (SOp.idx 1 (Operand.tmp 166) (Operand.tmp 167)),
                  SOper.mk (some 169) none (SOp.load false 1 (Operand.tmp 168)),
                  SOper.mk (some 170) none (SOp.mv (Operand.tmp 23)),
                  SOper.mk (some 171) none (SOp.idx 1 (Operand.tmp 169) (Operand.tmp 170)),
                  SOper.mk (some 172) none (SOp.load false 1 (Operand.tmp 171)),
                  SOper.mk (some 173) none (SOp.mv (Operand.tmp 10)),
                  SOper.mk (some 174) none (SOp.mv (Operand.tmp 18)),
                  SOper.mk (some 175) none (SOp.idx 1 (Operand.tmp 173) (Operand.tmp 174)),
                  SOper.mk (some 176) none (SOp.load false 1 (Operand.tmp 175)),
                  SOper.mk (some 177) none (SOp.mv (Operand.tmp 19)),
                  SOper.mk (some 178) none (SOp.idx 1 (Operand.tmp 176) (Operand.tmp 177)),
                  SOper.mk (some 179) none (SOp.load false 1 (Operand.tmp 178)),
                  SOper.mk (some 180) none
                    (SOp.ibin BinOp.sub (Operand.tmp 179) (Operand.const (Value.int IntKind.i64 1))),
                  SOper.mk (some 181) none (SOp.ibin BinOp.eql (Operand.tmp 172) (Operand.tmp 180))]
                [2, 3, 9, 10, 18, 19, 20, 21, 22, 23, 152, 153, 181])
              (Stmt.cond (Operand.tmp 181)
                (Stmt.seq
                  (Stmt.region
                    [SOper.mk (some 182) none (SOp.mv (Operand.tmp 20)),
                      SOper.mk (some 183) none (SOp.mv (Operand.tmp 21)),
                      SOper.mk (some 184) none (SOp.buildS 3 1 [Value.int IntKind.i64 0] [(0, 1, Operand.tmp 183)]),
                      SOper.mk (some 185) none
                        (SOp.append 29 3 1 8 (Value.int IntKind.i64 0) (Operand.tmp 182) (Operand.tmp 184)),
                      SOper.mk (some 20) none (SOp.mv (Operand.tmp 185))]
                    [2, 3, 9, 10, 20, 22, 23])
                  (Stmt.seq
                    (Stmt.region
                      [SOper.mk (some 186) none (SOp.mv (Operand.tmp 22)),
                        SOper.mk (some 187) none (SOp.mv (Operand.tmp 23)),
                        SOper.mk (some 18) none (SOp.mv (Operand.tmp 186)),
                        SOper.mk (some 19) none (SOp.mv (Operand.tmp 187))]
                      [2, 3, 9, 10, 18, 19, 20])
                    (Stmt.exit 14)))
                Stmt.skip)))))
      (Stmt.region
        [SOper.mk (some 188) none (SOp.ibin BinOp.add (Operand.tmp 153) (Operand.const (Value.int IntKind.i64 1))),
          SOper.mk (some 153) none (SOp.mv (Operand.tmp 188))]
        [2, 3, 9, 10, 18, 19, 20, 152, 153])))
def S53_12 : Stmt :=
  Stmt.seq
  (Stmt.seq
    (Stmt.region
      [SOper.mk (some 140) none (SOp.mv (Operand.tmp 10)), SOper.mk (some 141) none (SOp.mv (Operand.tmp 18)),
        SOper.mk (some 142) none (SOp.idx 1 (Operand.tmp 140) (Operand.tmp 141)),
        SOper.mk (some 143) none (SOp.load false 1 (Operand.tmp 142)),
        SOper.mk (some 144) none (SOp.mv (Operand.tmp 19)),
        SOper.mk (some 145) none (SOp.idx 1 (Operand.tmp 143) (Operand.tmp 144)),
        SOper.mk (some 146) none (SOp.load false 1 (Operand.tmp 145)),
        SOper.mk (some 147) none (SOp.ibin BinOp.gtr (Operand.tmp 146) (Operand.const (Value.int IntKind.i64 0)))]
      [2, 3, 9, 10, 18, 19, 20, 147])
    (Stmt.cond (Operand.tmp 147) Stmt.skip (Stmt.exit 12)))
  (Stmt.block 13
    (Stmt.seq
      (Stmt.region
        [SOper.mk (some 148) none (SOp.fld 2 (Operand.tmp 2)),
          SOper.mk (some 149) none (SOp.load false 1 (Operand.tmp 148)),
          SOper.mk (some 150) none (SOp.idx 1 (Operand.tmp 149) (Operand.const (Value.int IntKind.i64 0))),
          SOper.mk (some 151) none (SOp.load false 1 (Operand.tmp 150)),
          SOper.mk (some 152) none (SOp.len false (Operand.tmp 151)),
          SOper.mk (some 153) none (SOp.mv (Operand.const (Value.int IntKind.i64 0)))]
        [2, 3, 9, 10, 18, 19, 20, 152, 153])
      (Stmt.block 14 (Stmt.loop S53_11 [18, 19, 20, 153] [2, 3, 9, 10, 152]))))
def S53_0 : Stmt :=
  Stmt.seq
  (Stmt.region
    [SOper.mk (some 2) none (SOp.box true 67 (Operand.tmp 0)), SOper.mk (some 3) none (SOp.box true 67 (Operand.tmp 1)),
      SOper.mk (some 4) none (SOp.mv (Operand.const (Value.slice none 0 0))),
      SOper.mk (some 5) none (SOp.mv (Operand.const (Value.bool false)))]
    [2, 3])
  (Stmt.seq
    (Stmt.quiet
      [SOper.mk (some 24) none (SOp.fld 2 (Operand.tmp 2)), SOper.mk (some 25) none (SOp.load false 1 (Operand.tmp 24)),
        SOper.mk (some 26) none (SOp.len false (Operand.tmp 25)),
        SOper.mk (some 27) none (SOp.ibin BinOp.add (Operand.tmp 26) (Operand.const (Value.int IntKind.i64 1))),
        SOper.mk (some 28) none (SOp.fld 2 (Operand.tmp 3)),
        SOper.mk (some 29) none (SOp.load false 1 (Operand.tmp 28)),
        SOper.mk (some 30) none (SOp.len false (Operand.tmp 29)),
        SOper.mk (some 31) none (SOp.ibin BinOp.add (Operand.tmp 30) (Operand.const (Value.int IntKind.i64 1))),
        SOper.mk (some 6) none (SOp.mv (Operand.tmp 27)), SOper.mk (some 7) none (SOp.mv (Operand.tmp 31))]
      [2, 3, 6, 7])
    (Stmt.seq (Stmt.region [SOper.mk (some 8) none (SOp.mv (Operand.func 118))] [2, 3, 6, 7, 8])
      (Stmt.seq (Stmt.region [SOper.mk (some 9) none (SOp.mv (Operand.func 119))] [2, 3, 6, 7, 8, 9])
        (Stmt.seq
          (Stmt.region
            [SOper.mk (some 32) none (SOp.mv (Operand.tmp 6)), SOper.mk (some 33) none (SOp.mv (Operand.tmp 7)),
              SOper.mk (some 34) none (SOp.call (Operand.func 120) [Operand.tmp 32, Operand.tmp 33]),
              SOper.mk (some 10) none (SOp.mv (Operand.tmp 34))]
            [2, 3, 8, 9, 10])
          (Stmt.seq
            (Stmt.seq
              (Stmt.region
                [SOper.mk (some 35) none (SOp.mv (Operand.tmp 10)),
                  SOper.mk (some 36) none (SOp.len false (Operand.tmp 35)),
                  SOper.mk (some 37) none (SOp.mv (Operand.const (Value.int IntKind.i64 0)))]
                [2, 3, 8, 9, 10, 36, 37])
              (Stmt.block 0 (Stmt.loop S53_4 [37] [2, 3, 8, 9, 10, 36])))
            (Stmt.seq
              (Stmt.seq
                (Stmt.region [SOper.mk (some 13) none (SOp.mv (Operand.const (Value.bool true)))] [2, 3, 9, 10, 13])
                (Stmt.block 4 (Stmt.loop S53_10 [13] [2, 3, 9, 10])))
              (Stmt.seq
                (Stmt.quiet
                  [SOper.mk (some 128) none (SOp.fld 0 (Operand.tmp 2)),
                    SOper.mk (some 129) none (SOp.load false 1 (Operand.tmp 128)),
                    SOper.mk (some 130) none (SOp.fld 0 (Operand.tmp 3)),
                    SOper.mk (some 131) none (SOp.load false 1 (Operand.tmp 130)),
                    SOper.mk (some 18) none (SOp.mv (Operand.tmp 129)),
                    SOper.mk (some 19) none (SOp.mv (Operand.tmp 131))]
                  [2, 3, 9, 10, 18, 19])
                (Stmt.seq
                  (Stmt.seq
                    (Stmt.region
                      [SOper.mk (some 132) none (SOp.mv (Operand.tmp 10)),
                        SOper.mk (some 133) none (SOp.mv (Operand.tmp 18)),
                        SOper.mk (some 134) none (SOp.idx 1 (Operand.tmp 132) (Operand.tmp 133)),
                        SOper.mk (some 135) none (SOp.load false 1 (Operand.tmp 134)),
                        SOper.mk (some 136) none (SOp.mv (Operand.tmp 19)),
                        SOper.mk (some 137) none (SOp.idx 1 (Operand.tmp 135) (Operand.tmp 136)),
                        SOper.mk (some 138) none (SOp.load false 1 (Operand.tmp 137)),
                        SOper.mk (some 139) none
                          (SOp.ibin BinOp.geq (Operand.tmp 138) (Operand.const (Value.int IntKind.i64 1099511627776)))]
                      [2, 3, 9, 10, 18, 19, 139])
                    (Stmt.cond (Operand.tmp 139)
                      (Stmt.seq
                        (Stmt.region
                          [SOper.mk (some 4) none (SOp.mv (Operand.const (Value.slice none 0 0))),
                            SOper.mk (some 5) none (SOp.mv (Operand.const (Value.bool false)))]
                          [4, 5])
                        Stmt.ret)
                      Stmt.skip))
                  (Stmt.seq
                    (Stmt.region [SOper.mk (some 20) none (SOp.mv (Operand.const (Value.slice none 0 0)))]
                      [2, 3, 9, 10, 18, 19, 20])
                    (Stmt.seq (Stmt.block 12 (Stmt.loop S53_12 [18, 19, 20] [2, 3, 9, 10]))
                      (Stmt.seq
                        (Stmt.region
                          [SOper.mk (some 189) none (SOp.mv (Operand.tmp 20)),
                            SOper.mk (some 4) none (SOp.mv (Operand.tmp 189)),
                            SOper.mk (some 5) none (SOp.mv (Operand.const (Value.bool true)))]
                          [4, 5])
                        Stmt.ret)))))))))))
def S53 : FnS := ⟨190, [(4, none), (5, none)], S53_0⟩
theorem tr53 : trFn Try.prog 53 [2, 3] [[2, 3], [2, 3, 6, 7], [2, 3, 6, 7, 8], [2, 3, 6, 7, 8, 9], [2, 3, 8, 9, 10], [2, 3, 8, 9, 10, 36, 37], [37], [2, 3, 8, 9, 10, 36], [2, 3, 8, 9, 10, 36, 37, 38], [2, 3, 8, 9, 10, 11, 36, 37], [2, 3, 8, 9, 10, 11, 36, 37, 44, 45], [45], [2, 3, 8, 9, 10, 11, 36, 37, 44], [2, 3, 8, 9, 10, 11, 36, 37, 44, 45, 46], [], [2, 3, 8, 9, 10, 11, 36, 37, 44, 45], [2, 3, 8, 9, 10, 11, 12, 36, 37, 44, 45], [2, 3, 8, 9, 10, 11, 12, 36, 37, 44, 45], [2, 3, 8, 9, 10, 11, 12, 36, 37, 44, 45, 62], [0, 1, 2, 4, 5, 6, 3, 7, 8], [5], [], [], [], [0, 1, 2], [], [], [], [0, 1, 2, 3, 4, 5, 6], [0, 1, 2, 3, 4, 5, 6, 7], [2, 3, 8, 9, 10, 11, 36, 37, 44, 45], [2, 3, 8, 9, 10, 11, 36, 37, 44, 45], [2, 3, 8, 9, 10, 36, 37], [2, 3, 9, 10, 13], [13], [2, 3, 9, 10], [2, 3, 9, 10, 71], [2, 3, 9, 10, 13], [2, 3, 9, 10, 13, 73, 74], [13, 74], [2, 3, 9, 10, 73], [2, 3, 9, 10, 13, 73, 74, 75], [2, 3, 9, 10, 13, 14, 73, 74], [2, 3, 9, 10, 13, 14, 73, 74, 81, 82], [13, 82], [2, 3, 9, 10, 14, 73, 74, 81], [2, 3, 9, 10, 13, 14, 73, 74, 81, 82, 83], [2, 3, 9, 10, 13, 14, 15, 73, 74, 81, 82], [2, 3, 9, 10, 13, 14, 15, 73, 74, 81, 82, 89, 90], [13, 90], [2, 3, 9, 10, 14, 15, 73, 74, 81, 82, 89], [2, 3, 9, 10, 13, 14, 15, 73, 74, 81, 82, 89, 90, 91], [13], [2, 3, 9, 10, 14, 15, 73, 74, 81, 82, 89, 90], [2, 3, 9, 10, 13, 14, 15, 16, 73, 74, 81, 82, 89, 90], [2, 3, 9, 10, 13, 14, 15, 17, 73, 74, 81, 82, 89, 90], [0, 1, 2, 3, 4, 8, 9, 10, 11, 5, 6, 7, 12, 13, 14, 15, 16], [7, 9], [], [], [], [], [], [1, 2, 3, 4], [0, 1, 2, 3, 4, 5], [0, 1, 2, 3, 4, 5, 6], [], [], [], [], [1, 2, 3, 4, 5, 8, 9, 10, 11], [0, 1, 2, 3, 4, 5, 6, 7, 8, 9, 10, 11, 12], [0, 1, 2, 3, 4, 5, 6, 7, 8, 9, 10, 11, 12, 13], [0, 1, 2, 3, 4, 5, 6, 7, 8, 9, 10, 11, 12, 13, 14], [0, 1, 2, 3, 4, 5, 6, 7, 8, 9, 10, 11, 12, 13, 14, 15], [2, 3, 9, 10, 13, 14, 15, 17, 73, 74, 81, 82, 89, 90, 117], [2, 3, 9, 10, 13, 14, 15, 73, 74, 81, 82, 89, 90], [2, 3, 9, 10, 13, 14, 15, 73, 74, 81, 82, 89, 90], [2, 3, 9, 10, 13, 14, 73, 74, 81, 82], [2, 3, 9, 10, 13, 73, 74], [2, 3, 9, 10, 18, 19], [2, 3, 9, 10, 18, 19, 139], [4, 5], [2, 3, 9, 10, 18, 19, 20], [18, 19, 20], [2, 3, 9, 10], [2, 3, 9, 10, 18, 19, 20, 147], [2, 3, 9, 10, 18, 19, 20, 152, 153], [18, 19, 20, 153], [2, 3, 9, 10, 152], [2, 3, 9, 10, 18, 19, 20, 152, 153, 154], [2, 3, 9, 10, 18, 19, 20, 21, 152, 153], [2, 3, 9, 10, 18, 19, 20, 21, 22, 23, 152, 153], [0, 1, 2, 3, 5, 6, 7, 8, 4, 9, 10, 11], [6], [], [], [], [], [0, 1, 2, 3], [], [], [], [], [0, 1, 2, 3, 4, 5, 6, 7, 8], [0, 1, 2, 3, 4, 5, 6, 7, 8, 9], [0, 1, 2, 3, 4, 5, 6, 7, 8, 9, 10], [2, 3, 9, 10, 18, 19, 20, 21, 22, 23, 152, 153, 181], [2, 3, 9, 10, 20, 22, 23], [2, 3, 9, 10, 18, 19, 20], [2, 3, 9, 10, 18, 19, 20, 152, 153], [4, 5]] = some S53 := by kernel_rfl
end Go.Proofs.Ytniobbepliknmaa.V
/- Two automata side by side, by how far they are from a difference: parlref5.Apart walked; no condition. -/
namespace Go.Proofs.Ytniobbepliknmaa.V
open Go
set_option linter.unusedVariables false
set_option linter.unusedSimpArgs false
attribute [local go_sem] e_seq e_region e_quiet e_join e_loop e_cond e_block e_exit e_ret e_skip e_fin e_kseq e_snrm e_sret e_sex e_bnrm e_bret e_bex e_rnrm e_rret e_res e_condC e_nil e_g e_mv g_mv e_pick g_pick pickC_eq e_ibin g_ibin ibinC_eq e_sbin g_sbin e_beq g_beq beqC_eq e_nilq g_nilq nilqC_sl nilqC_pt nilqC_mp e_un g_un unC_not unC_neg e_conv g_conv convC_eq e_fld g_fld fldC_ref fldC_ptr e_nilCheck g_nilCheck nilCheckC_ref nilCheckC_ptr nilCheckC_fun e_field g_field fieldC_eq e_len g_len lenC_sl lenC_str e_extract g_extract extractC_eq e_mkFunc e_build g_build e_idiv g_idiv idivC_eq e_ishift g_ishift ishiftC_eq e_idx g_idx e_idxA g_idxA e_load g_load loadC_ref loadC_ptr loadB_eq e_slc g_slc e_box boxC_loc boxC_esc e_alloc allocC_loc allocC_esc e_buildS e_store storeC_ref storeC_ptr storeB_eq e_append e_appz e_mk mkC_eq e_call callC_eq e_fn g_fn fnC_eq fnV_min' fnV_max' fnV_rune' e_q g_q e_a e_n g_call g_box g_alloc g_buildS g_store g_append g_mk g_a g_n g_dead e_dead e_callK e_drawn e_tree e_finJ e_tk e_tfin e_tno e_nbt_q e_nbt_qn e_nbt_a e_nbt_an e_nbt_fin e_early_nil e_early_t e_early_f e_nob_nil e_nob_none e_nob_some isBox_dead isBox_v isBox_ref e_dnil e_dk e_ek e_finB vcOps_vc1 e_dcons e_tq e_ekt e_tearly e_talt e_dearly look_nil look_c proj_nil proj_c looks_nil looks_c zip_nil zip_c val_tmp val_const val_func slv_v slv_box slv_ref slot_tmp slot_const slot_func slotL_v slotL_box slotL_ref put_some put_none updBox_c boxSet_box gd_eq slotVals_nil slotVals_c slotVals_b boxV_box boxOn_box slotsOn_nil slotsOn_c slotsOn_b resV_one resV_two vals_nil vals_c allOn_nil allOn_c partOn_nil partOn_c partVals_nil partVals_c fits_nil fits_c fillL_nil fillL_c mkv_one mkv_agg cellsV_agg cellsV_int cellsV_bool cellsV_slice cellsV_string cellsV_pointer cellsV_func cellsV_nilf cellsV_map one'_nil one'_c oc_int oc_bool oc_slice oc_string oc_pointer oc_func oc_nilf oc_map setC_eq iv_add iv_sub iv_mul iv_eql iv_neq iv_lss iv_leq iv_gtr iv_geq iok_add iok_sub iok_mul iok_eql iok_neq iok_lss iok_leq iok_gtr iok_geq pickV_bool args0_nil args0_c bnd_none bnd_some imp_bt imp_bf imp_ebt imp_ebf imp_eb1 imp_np imp_pp beq_tt beq_tf beq_ft beq_ff cond_or cond_and e_round e_meet Int.le_refl Int.toNat_zero decide_true decide_false Bool.or_false Bool.false_or Bool.true_or Bool.or_true Bool.and_false Bool.false_and Bool.bne_false Bool.bne_true beq_iff_eq Int.cast_ofNat_Int not_false_eq_true not_true_eq_false false_and and_false false_implies true_implies true_and and_true Bool.true_and Bool.and_true Bool.not_true Bool.not_false forall_const implies_true List.take_zero List.drop_zero List.take_succ_cons List.drop_succ_cons List.take_nil List.drop_nil List.length_cons List.length_nil List.nil_append List.append_nil List.cons_append Int.toNat_natCast decide_eq_true_eq decide_eq_false_iff_not cond_true cond_false and_self List.getElem?_cons_zero List.getElem?_cons_succ List.set_cons_zero List.set_cons_succ Option.some.injEq exists_eq_left' Nat.zero_add Nat.add_zero Nat.mul_one imp_self true_or or_true or_false false_or Bool.or_eq_true Bool.or_eq_false_iff Bool.and_eq_true Bool.and_eq_false_iff Bool.not_eq_true' Bool.not_eq_false'

theorem Arr.int {g : PH} {b : Nat} {T : TypeId} {xs : List Int} (h : Arr g b T xs) {i : Nat} (hi : i < xs.length) {Γ : Ctx} (hg : g ∈ Γ) : Cells Γ b i [.int .i64 xs[i]] := h.cell hi hg
def iset2 (F : List (List Int)) (a b : Nat) (v : Int) : List (List Int) := F.set a ((F.getD a []).set b v)
structure Rc (n m : Nat) (F : List (List Int)) : Prop where
  len : F.length = n
  row : ∀ r ∈ F, r.length = m
theorem Rc.at' {n m : Nat} {F : List (List Int)} (h : Rc n m F) {a : Nat} (ha : a < F.length) : F[a].length = m := h.row _ (List.getElem_mem ha)
theorem Rc.set {n m : Nat} {F : List (List Int)} (h : Rc n m F) (a b : Nat) (v : Int) : Rc n m (iset2 F a b v) := by
  refine ⟨by simp [iset2, h.len], fun r hr => ?_⟩
  unfold iset2 at hr
  rcases Nat.lt_or_ge a F.length with ha | ha
  · rcases List.mem_or_eq_of_mem_set hr with q | q
    · exact h.row r q
    · subst q; simp [ha, h.at' ha]
  · rw [List.set_eq_of_length_le ha] at hr
    exact h.row r hr
theorem fr_at {F : List (List Int)} {a b : Nat} (ha : a < F.length) (hb : b < F[a].length) : fr F a b = F[a][b] := by simp [fr, ha, hb]
theorem fr_set {n m : Nat} {F : List (List Int)} (h : Rc n m F) {a b : Nat} (v : Int) (ha : a < n) (hb : b < m) (p q : Nat) : fr (iset2 F a b v) p q = if p = a ∧ q = b then v else fr F p q := by
  have hl := h.len
  have hr := h.at' (a := a) (by omega)
  by_cases e : p = a
  · subst e
    simp only [fr, iset2, List.getD_eq_getElem?_getD, List.getElem?_set_self (show p < F.length by omega), Option.getD_some]
    rw [List.getElem?_eq_getElem (show p < F.length by omega)]
    simp only [Option.getD_some, List.getElem?_set]
    by_cases e' : b = q
    · subst e'
      simp [hr, hb]
    · have : ¬ q = b := fun z => e' z.symm
      simp [e', this]
  · have e'' : ¬ a = p := fun z => e z.symm
    simp [fr, iset2, List.getD_eq_getElem?_getD, List.getElem?_set, e, e'']
theorem iset2_at {F : List (List Int)} {a b : Nat} (ha : a < F.length) (v : Int) : iset2 F a b v = F.set a (F[a].set b v) := by simp [iset2, ha]
def ssum (F : List (List Int)) : Int := (F.map List.sum).sum
theorem sum_set : ∀ {l : List Int} {b : Nat} (hb : b < l.length) (v : Int), (l.set b v).sum = l.sum - l[b] + v
  | x :: l, 0, _, v => by simp; omega
  | x :: l, b + 1, h, v => by
    have := sum_set (l := l) (b := b) (by simpa using h) v
    simp only [List.set_cons_succ, List.sum_cons, this, List.getElem_cons_succ]
    omega
theorem ssum_set : ∀ {F : List (List Int)} {a b : Nat} (ha : a < F.length) (hb : b < F[a].length) (v : Int), ssum (F.set a (F[a].set b v)) = ssum F - F[a][b] + v
  | x :: F, 0, b, _, hb, v => by
    simp only [ssum, List.set_cons_zero, List.map_cons, List.sum_cons, List.getElem_cons_zero]
    rw [sum_set (by simpa using hb)]
    omega
  | x :: F, a + 1, b, ha, hb, v => by
    have := ssum_set (F := F) (a := a) (b := b) (by simpa using ha) (by simpa using hb) v
    simp only [ssum, List.set_cons_succ, List.map_cons, List.sum_cons, List.getElem_cons_succ] at this ⊢
    omega
theorem sum_nonneg' : ∀ {l : List Int}, (∀ x ∈ l, 0 ≤ x) → 0 ≤ l.sum
  | [], _ => by simp
  | x :: l, h => by
    have := sum_nonneg' (l := l) fun y hy => h y (by simp [hy])
    have := h x (by simp)
    simp; omega
theorem ssum_nonneg {F : List (List Int)} (h : ∀ r ∈ F, ∀ x ∈ r, 0 ≤ x) : 0 ≤ ssum F := sum_nonneg' fun x hx => by
  obtain ⟨r, hr, rfl⟩ := List.mem_map.1 hx
  exact sum_nonneg' (h r hr)
section
variable {x y : Da}
theorem FarS.rc {F : List (List Int)} (h : FarS x y F) : Rc (x.nx.length + 1) (y.nx.length + 1) F := ⟨h.len, h.row⟩
theorem FarS.nonneg {F : List (List Int)} (h : FarS x y F) : 0 ≤ ssum F := by
  refine ssum_nonneg fun r hr z hz => ?_
  obtain ⟨a, ha, rfl⟩ := List.getElem_of_mem hr
  obtain ⟨b, hb, rfl⟩ := List.getElem_of_mem hz
  have h1 := h.len
  have h2 := h.row _ hr
  have := (h.lo a b (by omega) (by omega)).1
  rwa [fr_at ha hb] at this
/-- one comes nearer -/
theorem FarS.upd (Vx : VD x) (Vy : VD y) (hxy : colsD x = colsD y) {F : List (List Int)} (h : FarS x y F) {a b : Nat} (ha : a ≤ x.nx.length) (hb : b ≤ y.nx.length) {c : Nat} (hc : (c : Int) < colsD x) (hlt : fr F (gI x a c) (gI y b c) + 1 < fr F a b) : FarS x y (iset2 F a b (fr F (gI x a c) (gI y b c) + 1)) := by
  have hcc : 0 ≤ (c : Int) ∧ (c : Int) < colsD x := ⟨by omega, hc⟩
  have g1 := (stI_g Vx (s := a) hcc).2
  have g2 := (stI_g Vy (s := b) (by rw [← hxy]; exact hcc)).2
  have hlo := h.lo _ _ g1 g2
  have hlo' := h.lo a b ha hb
  have R := h.rc.set a b (fr F (gI x a c) (gI y b c) + 1)
  refine ⟨R.len, R.row, fun p q hp hq => ?_, fun p q hp hq hl => ?_, fun p q hp hq hd => ?_⟩
  · rw [fr_set h.rc _ (by omega) (by omega)]
    split
    · omega
    · exact h.lo p q hp hq
  · rw [fr_set h.rc _ (by omega) (by omega)] at hl ⊢
    split at hl
    · rename_i e
      obtain ⟨rfl, rfl⟩ := e
      rw [if_pos ⟨rfl, rfl⟩]
      obtain ⟨w, h1, h2, h3⟩ := h.snd _ _ g1 g2 (by omega)
      refine ⟨(c : Int) :: w, fun z hz => ?_, by simp; omega, (difI_cons Vx Vy hxy hcc).2 h3⟩
      rcases List.mem_cons.1 hz with rfl | hz
      · exact hcc
      · exact h1 z hz
    · rename_i e
      rw [if_neg e]
      exact h.snd p q hp hq hl
  · rw [fr_set h.rc _ (by omega) (by omega)]
    split
    · rename_i e
      obtain ⟨rfl, rfl⟩ := e
      have := h.zero p q ha hb hd
      omega
    · exact h.zero p q hp hq hd
def difB (x y : Da) (a b : Nat) : Bool := accP x (stI x a) != accP y (stI y b)
theorem difB_iff {a b : Nat} : difB x y a b = true ↔ DifI x y a b [] := by simp [difB, DifI, goD]
/-- how far, at first -/
def far0 (x y : Da) (a b : Nat) : Int := if difB x y a b then 0 else 1099511627776
theorem FarS.init {F : List (List Int)} (hR : Rc (x.nx.length + 1) (y.nx.length + 1) F) (h : ∀ a b, a ≤ x.nx.length → b ≤ y.nx.length → fr F a b = far0 x y a b) : FarS x y F := by
  refine ⟨hR.len, hR.row, fun a b ha hb => ?_, fun a b ha hb hl => ?_, fun a b ha hb hd => ?_⟩
  · rw [h a b ha hb]; unfold far0; split <;> omega
  · rw [h a b ha hb] at hl ⊢
    unfold far0 at hl ⊢
    split at hl
    · rename_i hd
      exact ⟨[], fun z hz => (by cases hz), (by simp [hd]), difB_iff.1 hd⟩
    · omega
  · rw [h a b ha hb]; unfold far0; rw [if_pos (difB_iff.2 hd)]
/-- one place is done -/
def ClA (x y : Da) (F : List (List Int)) (a b c : Nat) : Prop := fr F a b ≤ fr F (gI x a c) (gI y b c) + 1
end
set_option maxHeartbeats 4000000 in
theorem ref_apart {Γr : Ctx} {x y : Da} (Vx : VD x) (Vy : VD y) (hxy : colsD x = colsD y) {A B C D : Option Addr} {ca cb cc cd : Nat} (hA : SlOk (lk Γr) A ca x.ac) (hB : SlOk (lk Γr) B cb x.nx) (hC : SlOk (lk Γr) C cc y.ac) (hD : SlOk (lk Γr) D cd y.nx) :
    Ret Try.prog 53 [.agg #[.int .i64 x.st, .slice A x.ac.length ca, .slice B x.nx.length cb], .agg #[.int .i64 y.st, .slice C y.ac.length cc, .slice D y.nx.length cd]] Γr [] (fun v Γ => ∃ g w b v', Γ = [g] ∧ v = .tuple #[v', .bool b] ∧ Bld g (lk []) 3 v' w ∧ w.length ≤ 1099511627776 ∧ ToldF x y w b) := by
  generalize hR : (fun (v : Value) (Γ : Ctx) => ∃ g w b v', _) = Q
  refine ret_of_vc tr53 (Nat.le_of_ble_eq_true rfl) ?_
  have hlx := Vx.len
  have hly := Vy.len
  have hcx := Vx.cols
  have hsx := Vx.st
  have hsy := Vy.st
  have hpx : 0 < x.nx.length := by omega
  obtain ⟨b1, o1, hB1, A1, c1, hr1, hc1⟩ := hB.list hpx
  rw [cols_at hpx] at hc1
  have hc1' : ∀ Γ : Ctx, Mem.le (lk Γr) (lk Γ) → Cells Γ b1 o1 [.slice A1 (colsD x) c1] := fun Γ h => by simpa using hc1 Γ h
  obtain ⟨N, hN⟩ : ∃ N : Nat, x.nx.length = N := ⟨_, rfl⟩
  obtain ⟨M, hM⟩ : ∃ M : Nat, y.nx.length = M := ⟨_, rfl⟩
  simp -implicitDefEqProofs only [S53, S53_0, go_sem, Nat.reduceBEq, Nat.reduceAdd, Nat.reduceSub, Nat.reduceMul, Nat.reduceLeDiff, reduceCtorEq, ↓reduceIte, Int.reduceLT, Int.reduceLE, Int.reduceEq, Int.reduceNe]
  intro bx by'
  simp (disch := omega) only [wrap_id]
  rw [show (x.nx.length : Int) + 1 = ((N + 1 : Nat) : Int) by omega, show (y.nx.length : Int) + 1 = ((M + 1 : Nat) : Int) by omega]
  refine CallVC.pure (grid_int (Γr := []) (N + 1) (M + 1) (by omega) (by omega)) (List.nil_sublist _) ?_
  rintro v Γ' ⟨gF, bF, rfl, rfl, hG⟩
  simp -implicitDefEqProofs only [go_sem, Nat.reduceBEq, Nat.reduceAdd, Nat.reduceSub, Nat.reduceMul, Nat.reduceLeDiff, reduceCtorEq, ↓reduceIte, Int.reduceLT, Int.reduceLE, Int.reduceEq, Int.reduceNe]
  refine s_loop (fun f vs Γ => ∃ gF, Γ = [gF] ∧ ∃ (a : Nat) (F : List (List Int)), vs = [.v true (.int .i64 a)] ∧ a + f = N + 1 ∧ Grid gF bF 29 3 F ∧ Rc (N + 1) (M + 1) F ∧ ∀ p q, p < a → q ≤ M → fr F p q = far0 x y p q) (N + 1)
    (Up.here ⟨_, rfl, 0, _, rfl, by omega, hG, ⟨by simp, fun r hr => by rw [List.eq_of_mem_replicate hr]; simp⟩, fun p q h => by omega⟩) ?_
  rintro f vs Γ ⟨gF, rfl, a, F, rfl, haf, hG, hRc, hd0⟩
  simp -implicitDefEqProofs only [S53_4, go_sem, Nat.reduceBEq, Nat.reduceAdd, Nat.reduceSub, Nat.reduceMul, Nat.reduceLeDiff, reduceCtorEq, ↓reduceIte, Int.reduceLT, Int.reduceLE, Int.reduceEq, Int.reduceNe]
  refine ⟨fun hlt => ?_, fun hge => ?_⟩
  · have ha : a < N + 1 := by omega
    have hFl := hRc.len
    have hra := hRc.at' (a := a) (by omega)
    obtain ⟨ka, hcell, hArr, hput⟩ := hG.at' (i := a) (by omega) (by omega)
    refine s_idx rfl (by omega) (by omega) ?_
    simp -implicitDefEqProofs only [go_sem, Nat.reduceBEq, Nat.reduceAdd, Nat.reduceSub, Nat.reduceMul, Nat.reduceLeDiff, reduceCtorEq, ↓reduceIte, Int.reduceLT, Int.reduceLE, Int.reduceEq, Int.reduceNe]
    refine s_ld0 (hcell _ (by simp)) (by simp) (by simp) ?_
    simp -implicitDefEqProofs only [go_sem, Nat.reduceBEq, Nat.reduceAdd, Nat.reduceSub, Nat.reduceMul, Nat.reduceLeDiff, reduceCtorEq, ↓reduceIte, Int.reduceLT, Int.reduceLE, Int.reduceEq, Int.reduceNe]
    refine s_loop (fun f2 vs Γ => ∃ gF, Γ = [gF] ∧ ∃ (b : Nat) (F2 : List (List Int)), vs = [.v true (.int .i64 b)] ∧ b + f2 = M + 1 ∧ Grid gF bF 29 3 F2 ∧ Rc (N + 1) (M + 1) F2 ∧ (∀ p q, p < a → q ≤ M → fr F2 p q = far0 x y p q) ∧ ∀ q, q < b → fr F2 a q = far0 x y a q) (M + 1)
      (Up.here ⟨_, rfl, 0, F, rfl, by omega, hG, hRc, hd0, fun q h => by omega⟩) ?_
    rintro f2 vs Γ ⟨gF2, rfl, b, F2, rfl, hbf, hG2, hRc2, hd2, hda⟩
    simp -implicitDefEqProofs only [S53_3, go_sem, Nat.reduceBEq, Nat.reduceAdd, Nat.reduceSub, Nat.reduceMul, Nat.reduceLeDiff, reduceCtorEq, ↓reduceIte, Int.reduceLT, Int.reduceLE, Int.reduceEq, Int.reduceNe]
    refine ⟨fun hlt => ?_, fun hge => ?_⟩
    · have hb : b < M + 1 := by omega
      have hFl2 := hRc2.len
      have hra2 := hRc2.at' (a := a) (by omega)
      obtain ⟨ka2, hcell2, hArr2, hput2⟩ := hG2.at' (i := a) (by omega) (by omega)
      refine s_split ?_
      simp -implicitDefEqProofs only [S53_1, S53_2, go_sem, Nat.reduceBEq, Nat.reduceAdd, Nat.reduceSub, Nat.reduceMul, Nat.reduceLeDiff, reduceCtorEq, ↓reduceIte, Int.reduceLT, Int.reduceLE, Int.reduceEq, Int.reduceNe]
      refine s_idx rfl (by omega) (by omega) ?_
      simp -implicitDefEqProofs only [go_sem, Nat.reduceBEq, Nat.reduceAdd, Nat.reduceSub, Nat.reduceMul, Nat.reduceLeDiff, reduceCtorEq, ↓reduceIte, Int.reduceLT, Int.reduceLE, Int.reduceEq, Int.reduceNe]
      refine s_ld0 (hcell2 _ (by simp)) (by simp) (by simp) ?_
      simp -implicitDefEqProofs only [go_sem, Nat.reduceBEq, Nat.reduceAdd, Nat.reduceSub, Nat.reduceMul, Nat.reduceLeDiff, reduceCtorEq, ↓reduceIte, Int.reduceLT, Int.reduceLE, Int.reduceEq, Int.reduceNe]
      refine s_idx rfl (by omega) (by omega) ?_
      simp -implicitDefEqProofs only [go_sem, Nat.reduceBEq, Nat.reduceAdd, Nat.reduceSub, Nat.reduceMul, Nat.reduceLeDiff, reduceCtorEq, ↓reduceIte, Int.reduceLT, Int.reduceLE, Int.reduceEq, Int.reduceNe]
      refine s_storeA (ix := 0) (α := Int) 1099511627776 rfl hArr2 (i := b) (by omega) ?_
      intro g3 hA3 ho3
      have hG3 := hput2 g3 _ hA3 (by simp) ho3
      rw [← iset2_at (by omega)] at hG3
      have hRc3 := hRc2.set a b 1099511627776
      have hfr3 := fr_set hRc2 1099511627776 ha hb
      generalize iset2 F2 a b 1099511627776 = F3 at *
      simp -implicitDefEqProofs only [go_sem, Nat.reduceBEq, Nat.reduceAdd, Nat.reduceSub, Nat.reduceMul, Nat.reduceLeDiff, reduceCtorEq, ↓reduceIte, Int.reduceLT, Int.reduceLE, Int.reduceEq, Int.reduceNe]
      refine s_drawn [] [g3] (Ent.refl _) ?_
      simp -implicitDefEqProofs only [go_sem, Nat.reduceBEq, Nat.reduceAdd, Nat.reduceSub, Nat.reduceMul, Nat.reduceLeDiff, reduceCtorEq, ↓reduceIte, Int.reduceLT, Int.reduceLE, Int.reduceEq, Int.reduceNe]
      refine CallVC.read (apart_good (d := x) (hA.mono (lk_sub fun g hg => by simp [hg])) Vx (s := a) (by omega)) ?_
      rintro v Γ' ⟨rfl, rfl⟩
      simp -implicitDefEqProofs only [go_sem, Nat.reduceBEq, Nat.reduceAdd, Nat.reduceSub, Nat.reduceMul, Nat.reduceLeDiff, reduceCtorEq, ↓reduceIte, Int.reduceLT, Int.reduceLE, Int.reduceEq, Int.reduceNe]
      refine CallVC.read (apart_good (d := y) (hC.mono (lk_sub fun g hg => by simp [hg])) Vy (s := b) (by omega)) ?_
      rintro v Γ' ⟨rfl, rfl⟩
      simp -implicitDefEqProofs only [go_sem, Nat.reduceBEq, Nat.reduceAdd, Nat.reduceSub, Nat.reduceMul, Nat.reduceLeDiff, reduceCtorEq, ↓reduceIte, Int.reduceLT, Int.reduceLE, Int.reduceEq, Int.reduceNe]
      refine ⟨fun hne => ?_, fun heq => ?_⟩
      · have hFl3 := hRc3.len
        have hra3 := hRc3.at' (a := a) (by omega)
        obtain ⟨ka3, hcell3, hArr3, hput3⟩ := hG3.at' (i := a) (by omega) (by omega)
        refine s_idx rfl (by omega) (by omega) ?_
        simp -implicitDefEqProofs only [go_sem, Nat.reduceBEq, Nat.reduceAdd, Nat.reduceSub, Nat.reduceMul, Nat.reduceLeDiff, reduceCtorEq, ↓reduceIte, Int.reduceLT, Int.reduceLE, Int.reduceEq, Int.reduceNe]
        refine s_ld0 (hcell3 _ (by simp)) (by simp) (by simp) ?_
        simp -implicitDefEqProofs only [go_sem, Nat.reduceBEq, Nat.reduceAdd, Nat.reduceSub, Nat.reduceMul, Nat.reduceLeDiff, reduceCtorEq, ↓reduceIte, Int.reduceLT, Int.reduceLE, Int.reduceEq, Int.reduceNe]
        refine s_idx rfl (by omega) (by omega) ?_
        simp -implicitDefEqProofs only [go_sem, Nat.reduceBEq, Nat.reduceAdd, Nat.reduceSub, Nat.reduceMul, Nat.reduceLeDiff, reduceCtorEq, ↓reduceIte, Int.reduceLT, Int.reduceLE, Int.reduceEq, Int.reduceNe]
        refine s_storeA (ix := 0) (α := Int) 0 rfl hArr3 (i := b) (by omega) ?_
        intro g4 hA4 ho4
        have hG4 := hput3 g4 _ hA4 (by simp) ho4
        rw [← iset2_at (by omega)] at hG4
        have hfr4 := fr_set hRc3 0 ha hb
        have hdif : difB x y a b = true := by simpa [difB] using hne
        simp -implicitDefEqProofs only [go_sem, Nat.reduceBEq, Nat.reduceAdd, Nat.reduceSub, Nat.reduceMul, Nat.reduceLeDiff, reduceCtorEq, ↓reduceIte, Int.reduceLT, Int.reduceLE, Int.reduceEq, Int.reduceNe]
        simp (disch := omega) only [wrap_id]
        refine Up.here ⟨f2 - 1, by omega, Up.here ⟨_, rfl, b + 1, _, rfl, by omega, hG4, hRc3.set a b 0, fun p q hp hq => ?_, fun q hq => ?_⟩⟩
        · rw [hfr4, if_neg (by omega), hfr3, if_neg (by omega)]
          exact hd2 p q hp hq
        · rw [hfr4]
          split
          · rename_i e
            rw [e.2]
            simp [far0, hdif]
          · rename_i e
            rw [hfr3, if_neg e]
            exact hda q (by omega)
      · have hdif : difB x y a b = false := by simpa [difB] using heq
        simp (disch := omega) only [wrap_id]
        refine Up.here ⟨f2 - 1, by omega, Up.here ⟨_, rfl, b + 1, _, rfl, by omega, hG3, hRc3, fun p q hp hq => ?_, fun q hq => ?_⟩⟩
        · rw [hfr3, if_neg (by omega)]
          exact hd2 p q hp hq
        · rw [hfr3]
          split
          · rename_i e
            rw [e.2]
            simp [far0, hdif]
          · exact hda q (by omega)
    · have hb : b = M + 1 := by omega
      simp (disch := omega) only [wrap_id]
      refine ⟨f - 1, by omega, Up.here ⟨_, rfl, a + 1, F2, rfl, by omega, hG2, hRc2, fun p q hp hq => ?_⟩⟩
      by_cases e : p = a
      · subst e; exact hda q (by omega)
      · exact hd2 p q (by omega) hq
  have ha : a = N + 1 := by omega
  have hS0 : FarS x y F := FarS.init (by rw [hN, hM]; exact hRc) fun p q hp hq => hd0 p q (by omega) (by omega)
  have hs0 := hS0.nonneg
  refine s_loop (fun f vs Γ => ∃ gF, Γ = [gF] ∧ ∃ (ag : Bool) (F : List (List Int)), vs = [.v true (.bool ag)] ∧ (f : Int) = ssum F + (if ag then 1 else 0) ∧ Grid gF bF 29 3 F ∧ FarS x y F ∧ (ag = false → FarC x y F)) (ssum F + 1).toNat
    (Up.here ⟨_, rfl, true, F, rfl, by simp; omega, hG, hS0, by simp⟩) ?_
  rintro f vs Γ ⟨gF, rfl, ag, F, rfl, hf, hG, hS, hCl⟩
  simp -implicitDefEqProofs only [S53_10, go_sem, Nat.reduceBEq, Nat.reduceAdd, Nat.reduceSub, Nat.reduceMul, Nat.reduceLeDiff, reduceCtorEq, ↓reduceIte, Int.reduceLT, Int.reduceLE, Int.reduceEq, Int.reduceNe]
  refine ⟨fun hag => ?_, fun hag => ?_⟩
  · subst hag
    have hFl := hS.len
    refine s_loop (fun f2 vs Γ => ∃ gF, Γ = [gF] ∧ ∃ (ag2 : Bool) (a : Nat) (F2 : List (List Int)), vs = [.v true (.bool ag2), .v true (.int .i64 a)] ∧ a + f2 = N + 1 ∧ Grid gF bF 29 3 F2 ∧ FarS x y F2 ∧ ssum F2 ≤ ssum F ∧ (ag2 = true → ssum F2 < ssum F) ∧
        (ag2 = false → F2 = F ∧ ∀ p q, p < a → q ≤ M → ∀ s : Nat, s < colsD x → ClA x y F p q s)) (N + 1)
      (Up.here ⟨_, rfl, false, 0, F, rfl, by omega, hG, hS, by omega, by simp, fun _ => ⟨rfl, fun p q h => by omega⟩⟩) ?_
    rintro f2 vs Γ ⟨gF2, rfl, ag2, a, F2, rfl, haf, hG2, hS2, hle2, ht2, hn2⟩
    simp -implicitDefEqProofs only [S53_9, go_sem, Nat.reduceBEq, Nat.reduceAdd, Nat.reduceSub, Nat.reduceMul, Nat.reduceLeDiff, reduceCtorEq, ↓reduceIte, Int.reduceLT, Int.reduceLE, Int.reduceEq, Int.reduceNe]
    refine ⟨fun hlt => ?_, fun hge => ?_⟩
    · have ha : a < N + 1 := by omega
      have hFl2 := hS2.len
      have hra2 := hS2.rc.at' (a := a) (by omega)
      obtain ⟨ka2, hcell2, hArr2, hput2⟩ := hG2.at' (i := a) (by omega) (by omega)
      refine s_idx rfl (by omega) (by omega) ?_
      simp -implicitDefEqProofs only [go_sem, Nat.reduceBEq, Nat.reduceAdd, Nat.reduceSub, Nat.reduceMul, Nat.reduceLeDiff, reduceCtorEq, ↓reduceIte, Int.reduceLT, Int.reduceLE, Int.reduceEq, Int.reduceNe]
      refine s_ld0 (hcell2 _ (by simp)) (by simp) (by simp) ?_
      simp -implicitDefEqProofs only [go_sem, Nat.reduceBEq, Nat.reduceAdd, Nat.reduceSub, Nat.reduceMul, Nat.reduceLeDiff, reduceCtorEq, ↓reduceIte, Int.reduceLT, Int.reduceLE, Int.reduceEq, Int.reduceNe]
      refine s_loop (fun f3 vs Γ => ∃ gF, Γ = [gF] ∧ ∃ (ag3 : Bool) (b : Nat) (F3 : List (List Int)), vs = [.v true (.bool ag3), .v true (.int .i64 b)] ∧ b + f3 = M + 1 ∧ Grid gF bF 29 3 F3 ∧ FarS x y F3 ∧ ssum F3 ≤ ssum F ∧ (ag3 = true → ssum F3 < ssum F) ∧
          (ag3 = false → F3 = F ∧ (∀ p q, p < a → q ≤ M → ∀ s : Nat, s < colsD x → ClA x y F p q s) ∧ ∀ q, q < b → ∀ s : Nat, s < colsD x → ClA x y F a q s)) (M + 1)
        (Up.here ⟨_, rfl, ag2, 0, F2, rfl, by omega, hG2, hS2, hle2, ht2, fun h => ⟨(hn2 h).1, (hn2 h).2, fun q h => by omega⟩⟩) ?_
      rintro f3 vs Γ ⟨gF3, rfl, ag3, b, F3, rfl, hbf, hG3, hS3, hle3, ht3, hn3⟩
      simp -implicitDefEqProofs only [S53_8, go_sem, Nat.reduceBEq, Nat.reduceAdd, Nat.reduceSub, Nat.reduceMul, Nat.reduceLeDiff, reduceCtorEq, ↓reduceIte, Int.reduceLT, Int.reduceLE, Int.reduceEq, Int.reduceNe]
      refine ⟨fun hlt => ?_, fun hge => ?_⟩
      · have hb : b < M + 1 := by omega
        refine s_idx hB1 (by omega) (by omega) ?_
        simp -implicitDefEqProofs only [go_sem, Nat.reduceBEq, Nat.reduceAdd, Nat.reduceSub, Nat.reduceMul, Nat.reduceLeDiff, reduceCtorEq, ↓reduceIte, Int.reduceLT, Int.reduceLE, Int.reduceEq, Int.reduceNe]
        refine s_ld0 (hc1' _ (lk_r _ _)) (by simp) (by simp) ?_
        simp -implicitDefEqProofs only [go_sem, Nat.reduceBEq, Nat.reduceAdd, Nat.reduceSub, Nat.reduceMul, Nat.reduceLeDiff, reduceCtorEq, ↓reduceIte, Int.reduceLT, Int.reduceLE, Int.reduceEq, Int.reduceNe]
        refine s_loop (fun f4 vs Γ => ∃ gF, Γ = [gF] ∧ ∃ (ag4 : Bool) (c : Nat) (F4 : List (List Int)), vs = [.v true (.bool ag4), .v true (.int .i64 c)] ∧ c + f4 = colsD x ∧ Grid gF bF 29 3 F4 ∧ FarS x y F4 ∧ ssum F4 ≤ ssum F ∧ (ag4 = true → ssum F4 < ssum F) ∧
            (ag4 = false → F4 = F ∧ (∀ p q, p < a → q ≤ M → ∀ s : Nat, s < colsD x → ClA x y F p q s) ∧ (∀ q, q < b → ∀ s : Nat, s < colsD x → ClA x y F a q s) ∧ ∀ s : Nat, s < c → ClA x y F a b s)) (colsD x)
          (Up.here ⟨_, rfl, ag3, 0, F3, rfl, by omega, hG3, hS3, hle3, ht3, fun h => ⟨(hn3 h).1, (hn3 h).2.1, (hn3 h).2.2, fun q h => by omega⟩⟩) ?_
        rintro f4 vs Γ ⟨gF4, rfl, ag4, c, F4, rfl, hcf, hG4, hS4, hle4, ht4, hn4⟩
        simp -implicitDefEqProofs only [S53_7, go_sem, Nat.reduceBEq, Nat.reduceAdd, Nat.reduceSub, Nat.reduceMul, Nat.reduceLeDiff, reduceCtorEq, ↓reduceIte, Int.reduceLT, Int.reduceLE, Int.reduceEq, Int.reduceNe]
        refine ⟨fun hlt => ?_, fun hge => ?_⟩
        · have hc : c < colsD x := by omega
          have hcc : 0 ≤ (c : Int) ∧ (c : Int) < colsD x := by omega
          have hcy : 0 ≤ (c : Int) ∧ (c : Int) < colsD y := by omega
          have g1 := (stI_g Vx (s := a) hcc).2
          have g2 := (stI_g Vy (s := b) hcy).2
          have hupd := hS4.upd Vx Vy hxy (a := a) (b := b) (by omega) (by omega) (c := c) hcc.2
          have hclA : ¬ (fr F4 (gI x a c) (gI y b c) + 1 < fr F4 a b) → ClA x y F4 a b c := fun h => by unfold ClA; omega
          have hlo := hS4.lo _ _ g1 g2
          obtain ⟨p, hp⟩ : ∃ p, gI x a c = p := ⟨_, rfl⟩
          obtain ⟨q, hq⟩ : ∃ q, gI y b c = q := ⟨_, rfl⟩
          rw [hp] at g1 hupd hclA hlo
          rw [hq] at g2 hupd hclA hlo
          have hFl4 := hS4.len
          have hrp := hS4.rc.at' (a := p) (by omega)
          have hra := hS4.rc.at' (a := a) (by omega)
          obtain ⟨kp, hcp, hAp, _⟩ := hG4.at' (i := p) (by omega) (by omega)
          obtain ⟨ka4, hca4, hAa4, hput4⟩ := hG4.at' (i := a) (by omega) (by omega)
          have e1 : fr F4 p q = F4[p][q]'(by omega) := fr_at (by omega) (by omega)
          have e2 : fr F4 a b = F4[a][b]'(by omega) := fr_at (by omega) (by omega)
          refine s_split ?_
          simp -implicitDefEqProofs only [S53_5, S53_6, go_sem, Nat.reduceBEq, Nat.reduceAdd, Nat.reduceSub, Nat.reduceMul, Nat.reduceLeDiff, reduceCtorEq, ↓reduceIte, Int.reduceLT, Int.reduceLE, Int.reduceEq, Int.reduceNe]
          refine s_drawn [] [gF4] (Ent.refl _) ?_
          simp -implicitDefEqProofs only [go_sem, Nat.reduceBEq, Nat.reduceAdd, Nat.reduceSub, Nat.reduceMul, Nat.reduceLeDiff, reduceCtorEq, ↓reduceIte, Int.reduceLT, Int.reduceLE, Int.reduceEq, Int.reduceNe]
          refine CallVC.read (apart_go1 (d := x) (hB.mono (lk_sub fun g hg => by simp [hg])) Vx (s := a) (x := c) (by omega) (by omega)) ?_
          rintro v Γ' ⟨rfl, rfl⟩
          rw [hp]
          simp -implicitDefEqProofs only [go_sem, Nat.reduceBEq, Nat.reduceAdd, Nat.reduceSub, Nat.reduceMul, Nat.reduceLeDiff, reduceCtorEq, ↓reduceIte, Int.reduceLT, Int.reduceLE, Int.reduceEq, Int.reduceNe]
          refine s_idx rfl (by omega) (by omega) ?_
          simp -implicitDefEqProofs only [go_sem, Nat.reduceBEq, Nat.reduceAdd, Nat.reduceSub, Nat.reduceMul, Nat.reduceLeDiff, reduceCtorEq, ↓reduceIte, Int.reduceLT, Int.reduceLE, Int.reduceEq, Int.reduceNe]
          refine s_ld0 (hcp _ (by simp)) (by simp) (by simp) ?_
          simp -implicitDefEqProofs only [go_sem, Nat.reduceBEq, Nat.reduceAdd, Nat.reduceSub, Nat.reduceMul, Nat.reduceLeDiff, reduceCtorEq, ↓reduceIte, Int.reduceLT, Int.reduceLE, Int.reduceEq, Int.reduceNe]
          refine CallVC.read (apart_go1 (d := y) (hD.mono (lk_sub fun g hg => by simp [hg])) Vy (s := b) (x := c) (by omega) (by omega)) ?_
          rintro v Γ' ⟨rfl, rfl⟩
          rw [hq]
          simp -implicitDefEqProofs only [go_sem, Nat.reduceBEq, Nat.reduceAdd, Nat.reduceSub, Nat.reduceMul, Nat.reduceLeDiff, reduceCtorEq, ↓reduceIte, Int.reduceLT, Int.reduceLE, Int.reduceEq, Int.reduceNe]
          refine s_idx rfl (by omega) (by omega) ?_
          simp -implicitDefEqProofs only [go_sem, Nat.reduceBEq, Nat.reduceAdd, Nat.reduceSub, Nat.reduceMul, Nat.reduceLeDiff, reduceCtorEq, ↓reduceIte, Int.reduceLT, Int.reduceLE, Int.reduceEq, Int.reduceNe]
          refine s_ld0 (hAp.int (i := q) (by omega) (by simp)) (by simp) (by simp) ?_
          rw [← e1]
          simp -implicitDefEqProofs only [go_sem, Nat.reduceBEq, Nat.reduceAdd, Nat.reduceSub, Nat.reduceMul, Nat.reduceLeDiff, reduceCtorEq, ↓reduceIte, Int.reduceLT, Int.reduceLE, Int.reduceEq, Int.reduceNe]
          rw [wrap_id (x := fr F4 p q + 1) (by omega) (by omega)]
          refine s_idx rfl (by omega) (by omega) ?_
          simp -implicitDefEqProofs only [go_sem, Nat.reduceBEq, Nat.reduceAdd, Nat.reduceSub, Nat.reduceMul, Nat.reduceLeDiff, reduceCtorEq, ↓reduceIte, Int.reduceLT, Int.reduceLE, Int.reduceEq, Int.reduceNe]
          refine s_ld0 (hca4 _ (by simp)) (by simp) (by simp) ?_
          simp -implicitDefEqProofs only [go_sem, Nat.reduceBEq, Nat.reduceAdd, Nat.reduceSub, Nat.reduceMul, Nat.reduceLeDiff, reduceCtorEq, ↓reduceIte, Int.reduceLT, Int.reduceLE, Int.reduceEq, Int.reduceNe]
          refine s_idx rfl (by omega) (by omega) ?_
          simp -implicitDefEqProofs only [go_sem, Nat.reduceBEq, Nat.reduceAdd, Nat.reduceSub, Nat.reduceMul, Nat.reduceLeDiff, reduceCtorEq, ↓reduceIte, Int.reduceLT, Int.reduceLE, Int.reduceEq, Int.reduceNe]
          refine s_ld0 (hAa4.int (i := b) (by omega) (by simp)) (by simp) (by simp) ?_
          rw [← e2]
          simp -implicitDefEqProofs only [go_sem, Nat.reduceBEq, Nat.reduceAdd, Nat.reduceSub, Nat.reduceMul, Nat.reduceLeDiff, reduceCtorEq, ↓reduceIte, Int.reduceLT, Int.reduceLE, Int.reduceEq, Int.reduceNe]
          refine ⟨fun hlt => ?_, fun hge => ?_⟩
          · refine s_idx rfl (by omega) (by omega) ?_
            simp -implicitDefEqProofs only [go_sem, Nat.reduceBEq, Nat.reduceAdd, Nat.reduceSub, Nat.reduceMul, Nat.reduceLeDiff, reduceCtorEq, ↓reduceIte, Int.reduceLT, Int.reduceLE, Int.reduceEq, Int.reduceNe]
            refine s_ld0 (hca4 _ (by simp)) (by simp) (by simp) ?_
            simp -implicitDefEqProofs only [go_sem, Nat.reduceBEq, Nat.reduceAdd, Nat.reduceSub, Nat.reduceMul, Nat.reduceLeDiff, reduceCtorEq, ↓reduceIte, Int.reduceLT, Int.reduceLE, Int.reduceEq, Int.reduceNe]
            refine s_idx rfl (by omega) (by omega) ?_
            simp -implicitDefEqProofs only [go_sem, Nat.reduceBEq, Nat.reduceAdd, Nat.reduceSub, Nat.reduceMul, Nat.reduceLeDiff, reduceCtorEq, ↓reduceIte, Int.reduceLT, Int.reduceLE, Int.reduceEq, Int.reduceNe]
            refine s_storeA (ix := 0) (α := Int) (fr F4 p q + 1) rfl hAa4 (i := b) (by omega) ?_
            intro g5 hA5 ho5
            have hG5 := hput4 g5 _ hA5 (by simp) ho5
            have hs5 := ssum_set (F := F4) (a := a) (b := b) (by omega) (by omega) (fr F4 p q + 1)
            rw [← iset2_at (by omega)] at hG5 hs5
            simp -implicitDefEqProofs only [go_sem, Nat.reduceBEq, Nat.reduceAdd, Nat.reduceSub, Nat.reduceMul, Nat.reduceLeDiff, reduceCtorEq, ↓reduceIte, Int.reduceLT, Int.reduceLE, Int.reduceEq, Int.reduceNe]
            simp (disch := omega) only [wrap_id]
            refine Up.here ⟨f4 - 1, by omega, Up.here ⟨_, rfl, true, c + 1, _, rfl, by omega, hG5, hupd hlt, by omega, fun _ => by omega, by simp⟩⟩
          · simp (disch := omega) only [wrap_id]
            refine Up.here ⟨f4 - 1, by omega, Up.here ⟨_, rfl, ag4, c + 1, F4, rfl, by omega, hG4, hS4, hle4, ht4, fun h => ?_⟩⟩
            obtain ⟨h1, h2, h3, h4⟩ := hn4 h
            refine ⟨h1, h2, h3, fun s hs => ?_⟩
            by_cases e : s = c
            · subst e; rw [← h1]; exact hclA hge
            · exact h4 s (by omega)
        · have hc : c = colsD x := by omega
          simp (disch := omega) only [wrap_id]
          refine ⟨f3 - 1, by omega, Up.here ⟨_, rfl, ag4, b + 1, F4, rfl, by omega, hG4, hS4, hle4, ht4, fun h => ?_⟩⟩
          obtain ⟨h1, h2, h3, h4⟩ := hn4 h
          refine ⟨h1, h2, fun q hq => ?_⟩
          by_cases e : q = b
          · subst e; rw [← hc]; exact h4
          · exact h3 q (by omega)
      · have hb : b = M + 1 := by omega
        simp (disch := omega) only [wrap_id]
        refine ⟨f2 - 1, by omega, Up.here ⟨_, rfl, ag3, a + 1, F3, rfl, by omega, hG3, hS3, hle3, ht3, fun h => ?_⟩⟩
        obtain ⟨h1, h2, h3⟩ := hn3 h
        refine ⟨h1, fun p q hp hq => ?_⟩
        by_cases e : p = a
        · subst e; exact h3 q (by omega)
        · exact h2 p q (by omega) hq
    · have ha : a = N + 1 := by omega
      have hnn := hS2.nonneg
      refine ⟨(ssum F2 + (if ag2 then 1 else 0)).toNat, ?_, Up.here ⟨_, rfl, ag2, F2, rfl, ?_, hG2, hS2, fun h => ?_⟩⟩
      · cases ag2
        · simp at hf ⊢; omega
        · have := ht2 rfl; simp at hf ⊢; omega
      · cases ag2 <;> simp <;> omega
      · obtain ⟨h1, h2⟩ := hn2 h
        intro p q hp hq c hc
        rw [h1]
        exact h2 p q (by omega) (by omega) c (by omega)
  · subst hag
    have hC' := hCl rfl
    obtain ⟨s0, hs0⟩ : ∃ n : Nat, x.st = n := ⟨x.st.toNat, by omega⟩
    obtain ⟨t0, ht0⟩ : ∃ n : Nat, y.st = n := ⟨y.st.toNat, by omega⟩
    have hFl := hS.len
    have hrs := hS.rc.at' (a := s0) (by omega)
    obtain ⟨ks, hcs, hAs, _⟩ := hG.at' (i := s0) (by omega) (by omega)
    have e0 : fr F s0 t0 = F[s0][t0]'(by omega) := fr_at (by omega) (by omega)
    rw [hs0, ht0]
    refine s_idx rfl (by omega) (by omega) ?_
    simp -implicitDefEqProofs only [go_sem, Nat.reduceBEq, Nat.reduceAdd, Nat.reduceSub, Nat.reduceMul, Nat.reduceLeDiff, reduceCtorEq, ↓reduceIte, Int.reduceLT, Int.reduceLE, Int.reduceEq, Int.reduceNe]
    refine s_ld0 (hcs _ (by simp)) (by simp) (by simp) ?_
    simp -implicitDefEqProofs only [go_sem, Nat.reduceBEq, Nat.reduceAdd, Nat.reduceSub, Nat.reduceMul, Nat.reduceLeDiff, reduceCtorEq, ↓reduceIte, Int.reduceLT, Int.reduceLE, Int.reduceEq, Int.reduceNe]
    refine s_idx rfl (by omega) (by omega) ?_
    simp -implicitDefEqProofs only [go_sem, Nat.reduceBEq, Nat.reduceAdd, Nat.reduceSub, Nat.reduceMul, Nat.reduceLeDiff, reduceCtorEq, ↓reduceIte, Int.reduceLT, Int.reduceLE, Int.reduceEq, Int.reduceNe]
    refine s_ld0 (hAs.int (i := t0) (by omega) (by simp)) (by simp) (by simp) ?_
    rw [← e0]
    simp -implicitDefEqProofs only [go_sem, Nat.reduceBEq, Nat.reduceAdd, Nat.reduceSub, Nat.reduceMul, Nat.reduceLeDiff, reduceCtorEq, ↓reduceIte, Int.reduceLT, Int.reduceLE, Int.reduceEq, Int.reduceNe]
    have hlo0 := hS.lo s0 t0 (by omega) (by omega)
    refine ⟨fun h => Up.one fun g _ => ?_, fun h => ?_⟩
    · subst hR
      exact ⟨g, [], false, _, rfl, rfl, Bld.nil _ _ _, by simp, far_none Vx Vy hxy hS hC' (by rw [hs0, ht0]; exact h)⟩
    refine s_loop (fun f vs Γ => ∃ go, Γ = [go, gF] ∧ ∃ (a b : Nat) (u : List Int) (v : Value), vs = [.v true (.int .i64 a), .v true (.int .i64 b), .v true v] ∧ a ≤ N ∧ b ≤ M ∧ (f : Int) = fr F a b ∧ fr F a b < 1099511627776 ∧ Bld go (lk []) 3 v u ∧ u.length + fr F a b ≤ 1099511627776 ∧
        ∀ w, GrW x y F a b w → GrW x y F s0 t0 (u ++ w)) (fr F s0 t0).toNat
      (Up.sel [[], [0]] (by decide) fun _ _ => ⟨_, rfl, s0, t0, [], _, rfl, by omega, by omega, by omega, by omega, Bld.nil _ _ _, by simp; omega, fun w h => h⟩) ?_
    rintro f vs Γ ⟨go, rfl, a, b, u, v, rfl, ha, hb, hf, hlt, hBo, hul, hgr⟩
    obtain ⟨Ao, co, rfl⟩ := hBo.val
    have hra := hS.rc.at' (a := a) (by omega)
    obtain ⟨ka, hca, hAa, _⟩ := hG.at' (i := a) (by omega) (by omega)
    have eab : fr F a b = F[a][b]'(by omega) := fr_at (by omega) (by omega)
    simp -implicitDefEqProofs only [S53_12, go_sem, Nat.reduceBEq, Nat.reduceAdd, Nat.reduceSub, Nat.reduceMul, Nat.reduceLeDiff, reduceCtorEq, ↓reduceIte, Int.reduceLT, Int.reduceLE, Int.reduceEq, Int.reduceNe]
    refine s_idx rfl (by omega) (by omega) ?_
    simp -implicitDefEqProofs only [go_sem, Nat.reduceBEq, Nat.reduceAdd, Nat.reduceSub, Nat.reduceMul, Nat.reduceLeDiff, reduceCtorEq, ↓reduceIte, Int.reduceLT, Int.reduceLE, Int.reduceEq, Int.reduceNe]
    refine s_ld0 (hca _ (by simp)) (by simp) (by simp) ?_
    simp -implicitDefEqProofs only [go_sem, Nat.reduceBEq, Nat.reduceAdd, Nat.reduceSub, Nat.reduceMul, Nat.reduceLeDiff, reduceCtorEq, ↓reduceIte, Int.reduceLT, Int.reduceLE, Int.reduceEq, Int.reduceNe]
    refine s_idx rfl (by omega) (by omega) ?_
    simp -implicitDefEqProofs only [go_sem, Nat.reduceBEq, Nat.reduceAdd, Nat.reduceSub, Nat.reduceMul, Nat.reduceLeDiff, reduceCtorEq, ↓reduceIte, Int.reduceLT, Int.reduceLE, Int.reduceEq, Int.reduceNe]
    refine s_ld0 (hAa.int (i := b) (by omega) (by simp)) (by simp) (by simp) ?_
    rw [← eab]
    simp -implicitDefEqProofs only [go_sem, Nat.reduceBEq, Nat.reduceAdd, Nat.reduceSub, Nat.reduceMul, Nat.reduceLeDiff, reduceCtorEq, ↓reduceIte, Int.reduceLT, Int.reduceLE, Int.reduceEq, Int.reduceNe]
    refine ⟨fun h0 => ?_, fun h0 => ?_⟩
    · obtain ⟨cn, hcn, hnext⟩ := far_next Vx Vy hxy hS hC' (a := a) (b := b) (by omega) (by omega) h0 hlt
      refine s_idx hB1 (by omega) (by omega) ?_
      simp -implicitDefEqProofs only [go_sem, Nat.reduceBEq, Nat.reduceAdd, Nat.reduceSub, Nat.reduceMul, Nat.reduceLeDiff, reduceCtorEq, ↓reduceIte, Int.reduceLT, Int.reduceLE, Int.reduceEq, Int.reduceNe]
      refine s_ld0 (hc1' _ (lk_r _ _)) (by simp) (by simp) ?_
      simp -implicitDefEqProofs only [go_sem, Nat.reduceBEq, Nat.reduceAdd, Nat.reduceSub, Nat.reduceMul, Nat.reduceLeDiff, reduceCtorEq, ↓reduceIte, Int.reduceLT, Int.reduceLE, Int.reduceEq, Int.reduceNe]
      refine s_loop (fun f2 vs Γ => ∃ c : Nat, Γ = [go, gF] ∧ vs = [.v true (.int .i64 a), .v true (.int .i64 b), .v true (.slice Ao u.length co), .v true (.int .i64 c)] ∧ c + f2 = colsD x ∧ ∀ c' : Nat, c' < c → fr F (gI x a c') (gI y b c') ≠ fr F a b - 1) (colsD x)
        (Up.here ⟨0, rfl, rfl, by omega, fun c' h => by omega⟩) ?_
      rintro f2 vs Γ ⟨c, rfl, rfl, hcf, hmin⟩
      simp -implicitDefEqProofs only [S53_11, go_sem, Nat.reduceBEq, Nat.reduceAdd, Nat.reduceSub, Nat.reduceMul, Nat.reduceLeDiff, reduceCtorEq, ↓reduceIte, Int.reduceLT, Int.reduceLE, Int.reduceEq, Int.reduceNe]
      refine ⟨fun hltc => ?_, fun hge => ?_⟩
      · have hc : c < colsD x := by omega
        have hcc : 0 ≤ (c : Int) ∧ (c : Int) < colsD x := by omega
        have hcy : 0 ≤ (c : Int) ∧ (c : Int) < colsD y := by omega
        have g1 := (stI_g Vx (s := a) hcc).2
        have g2 := (stI_g Vy (s := b) hcy).2
        have hcons : ∀ w, fr F (gI x a c) (gI y b c) = fr F a b - 1 → GrW x y F (gI x a c) (gI y b c) w → GrW x y F a b ((c : Int) :: w) := fun w h1 h2 => .cons (by omega) h0 h1 hmin h2
        have hmin2 : ¬ (fr F (gI x a c) (gI y b c) = fr F a b - 1) → ∀ c' : Nat, c' < c + 1 → fr F (gI x a c') (gI y b c') ≠ fr F a b - 1 := fun h c' hc' => by
          by_cases e : c' = c
          · subst e; exact h
          · exact hmin c' (by omega)
        obtain ⟨p, hp⟩ : ∃ p, gI x a c = p := ⟨_, rfl⟩
        obtain ⟨q, hq⟩ : ∃ q, gI y b c = q := ⟨_, rfl⟩
        rw [hp] at g1 hcons hmin2
        rw [hq] at g2 hcons hmin2
        have hrp := hS.rc.at' (a := p) (by omega)
        obtain ⟨kp, hcp, hAp, _⟩ := hG.at' (i := p) (by omega) (by omega)
        have e1 : fr F p q = F[p][q]'(by omega) := fr_at (by omega) (by omega)
        have k1 := fun (G : Ctx) (hG' : Mem.le (lk Γr) (lk G)) => apart_go1 (d := x) (A := A) (c := ca) (hB.mono hG') Vx (s := a) (x := c) (by omega) (by omega)
        have k2 := fun (G : Ctx) (hG' : Mem.le (lk Γr) (lk G)) => apart_go1 (d := y) (A := C) (c := cc) (hD.mono hG') Vy (s := b) (x := c) (by omega) (by omega)
        simp only [hs0, hp] at k1
        simp only [ht0, hq] at k2
        refine s_drawn [] [go, gF] (Ent.refl _) ?_
        simp -implicitDefEqProofs only [go_sem, Nat.reduceBEq, Nat.reduceAdd, Nat.reduceSub, Nat.reduceMul, Nat.reduceLeDiff, reduceCtorEq, ↓reduceIte, Int.reduceLT, Int.reduceLE, Int.reduceEq, Int.reduceNe]
        refine CallVC.read (k1 _ (lk_sub fun g hg => by simp [hg])) ?_
        rintro v Γ' ⟨rfl, rfl⟩
        simp -implicitDefEqProofs only [go_sem, Nat.reduceBEq, Nat.reduceAdd, Nat.reduceSub, Nat.reduceMul, Nat.reduceLeDiff, reduceCtorEq, ↓reduceIte, Int.reduceLT, Int.reduceLE, Int.reduceEq, Int.reduceNe]
        refine CallVC.read (k2 _ (lk_sub fun g hg => by simp [hg])) ?_
        rintro v Γ' ⟨rfl, rfl⟩
        simp -implicitDefEqProofs only [go_sem, Nat.reduceBEq, Nat.reduceAdd, Nat.reduceSub, Nat.reduceMul, Nat.reduceLeDiff, reduceCtorEq, ↓reduceIte, Int.reduceLT, Int.reduceLE, Int.reduceEq, Int.reduceNe]
        refine s_idx rfl (by omega) (by omega) ?_
        simp -implicitDefEqProofs only [go_sem, Nat.reduceBEq, Nat.reduceAdd, Nat.reduceSub, Nat.reduceMul, Nat.reduceLeDiff, reduceCtorEq, ↓reduceIte, Int.reduceLT, Int.reduceLE, Int.reduceEq, Int.reduceNe]
        refine s_ld0 (hcp _ (by simp)) (by simp) (by simp) ?_
        simp -implicitDefEqProofs only [go_sem, Nat.reduceBEq, Nat.reduceAdd, Nat.reduceSub, Nat.reduceMul, Nat.reduceLeDiff, reduceCtorEq, ↓reduceIte, Int.reduceLT, Int.reduceLE, Int.reduceEq, Int.reduceNe]
        refine s_idx rfl (by omega) (by omega) ?_
        simp -implicitDefEqProofs only [go_sem, Nat.reduceBEq, Nat.reduceAdd, Nat.reduceSub, Nat.reduceMul, Nat.reduceLeDiff, reduceCtorEq, ↓reduceIte, Int.reduceLT, Int.reduceLE, Int.reduceEq, Int.reduceNe]
        refine s_ld0 (hAp.int (i := q) (by omega) (by simp)) (by simp) (by simp) ?_
        rw [← e1]
        simp -implicitDefEqProofs only [go_sem, Nat.reduceBEq, Nat.reduceAdd, Nat.reduceSub, Nat.reduceMul, Nat.reduceLeDiff, reduceCtorEq, ↓reduceIte, Int.reduceLT, Int.reduceLE, Int.reduceEq, Int.reduceNe]
        refine s_idx rfl (by omega) (by omega) ?_
        simp -implicitDefEqProofs only [go_sem, Nat.reduceBEq, Nat.reduceAdd, Nat.reduceSub, Nat.reduceMul, Nat.reduceLeDiff, reduceCtorEq, ↓reduceIte, Int.reduceLT, Int.reduceLE, Int.reduceEq, Int.reduceNe]
        refine s_ld0 (hca _ (by simp)) (by simp) (by simp) ?_
        simp -implicitDefEqProofs only [go_sem, Nat.reduceBEq, Nat.reduceAdd, Nat.reduceSub, Nat.reduceMul, Nat.reduceLeDiff, reduceCtorEq, ↓reduceIte, Int.reduceLT, Int.reduceLE, Int.reduceEq, Int.reduceNe]
        refine s_idx rfl (by omega) (by omega) ?_
        simp -implicitDefEqProofs only [go_sem, Nat.reduceBEq, Nat.reduceAdd, Nat.reduceSub, Nat.reduceMul, Nat.reduceLeDiff, reduceCtorEq, ↓reduceIte, Int.reduceLT, Int.reduceLE, Int.reduceEq, Int.reduceNe]
        refine s_ld0 (hAa.int (i := b) (by omega) (by simp)) (by simp) (by simp) ?_
        rw [← eab]
        simp -implicitDefEqProofs only [go_sem, Nat.reduceBEq, Nat.reduceAdd, Nat.reduceSub, Nat.reduceMul, Nat.reduceLeDiff, reduceCtorEq, ↓reduceIte, Int.reduceLT, Int.reduceLE, Int.reduceEq, Int.reduceNe]
        rw [wrap_id (x := fr F a b - 1) (by omega) (by omega)]
        refine ⟨fun heq => ?_, fun hne => ?_⟩
        · intro b3
          refine s_app1S (ix := 1) (c : Int) rfl hBo cells_one rfl (by omega) (by unfold maxLen; omega) ?_
          intro v' g' hBo' _
          simp -implicitDefEqProofs only [go_sem, Nat.reduceBEq, Nat.reduceAdd, Nat.reduceSub, Nat.reduceMul, Nat.reduceLeDiff, reduceCtorEq, ↓reduceIte, Int.reduceLT, Int.reduceLE, Int.reduceEq, Int.reduceNe]
          have hlo2 := hS.lo p q (by omega) (by omega)
          refine ⟨f - 1, by omega, Up.sel [[1], [2]] (by decide) fun _ _ => ⟨_, rfl, p, q, _, _, rfl, by omega, by omega, by omega, by omega, hBo', by simp; omega, fun w hw => ?_⟩⟩
          rw [List.append_assoc]
          exact hgr _ (hcons w heq hw)
        · simp (disch := omega) only [wrap_id]
          exact ⟨f2 - 1, by omega, Up.here ⟨c + 1, rfl, rfl, by omega, hmin2 hne⟩⟩
      · exact absurd hnext (hmin cn (by omega))
    · have hz := (hS.lo a b (by omega) (by omega)).1
      refine Up.sel [[0]] (by decide) fun _ _ => ?_
      subst hR
      have hfin := hgr [] (.nil (by omega))
      rw [List.append_nil] at hfin
      refine ⟨_, u, true, _, rfl, rfl, hBo, by omega, .inl ⟨rfl, greedy_least Vx Vy hxy hS hC' ?_⟩⟩
      rw [show x.st.toNat = s0 by omega, show y.st.toNat = t0 by omega]
      exact hfin
end Go.Proofs.Ytniobbepliknmaa.V
/- The text of parlance/draw.Number as a statement (slots: 0 n, 1 coins, 2 n, 3 coins, 7 bits, 8 used, 9 x, 10 _, 11 c); no condition. -/
namespace Go.Proofs.Ytniobbepliknmaa.V
open Go
def S21_1 : Stmt :=
  Stmt.seq
  (Stmt.seq
    (Stmt.region
      [SOper.mk (some 18) none (SOp.mv (Operand.tmp 7)),
        SOper.mk (some 19) none (SOp.ishift BinOp.shl (Operand.const (Value.int IntKind.i64 1)) (Operand.tmp 18)),
        SOper.mk (some 20) none (SOp.mv (Operand.tmp 0)),
        SOper.mk (some 21) none (SOp.ibin BinOp.lss (Operand.tmp 19) (Operand.tmp 20))]
      [0, 1, 7, 21])
    (Stmt.cond (Operand.tmp 21) Stmt.skip (Stmt.exit 0)))
  (Stmt.block 1
    (Stmt.region
      [SOper.mk (some 22) none (SOp.mv (Operand.tmp 7)),
        SOper.mk (some 23) none (SOp.ibin BinOp.add (Operand.tmp 22) (Operand.const (Value.int IntKind.i64 1))),
        SOper.mk (some 7) none (SOp.mv (Operand.tmp 23))]
      [0, 1, 7]))
def S21_2 : Stmt :=
  Stmt.block 5
  (Stmt.seq
    (Stmt.region
      [SOper.mk (some 39) none (SOp.idx 1 (Operand.tmp 35) (Operand.tmp 37)),
        SOper.mk (some 40) none (SOp.load false 1 (Operand.tmp 39)), SOper.mk (some 11) none (SOp.mv (Operand.tmp 40))]
      [0, 1, 7, 8, 9, 11, 35, 36, 37])
    (Stmt.seq
      (Stmt.region
        [SOper.mk (some 41) none (SOp.mv (Operand.tmp 9)),
          SOper.mk (some 42) none (SOp.ibin BinOp.mul (Operand.tmp 41) (Operand.const (Value.int IntKind.i64 2))),
          SOper.mk (some 9) none (SOp.mv (Operand.tmp 42))]
        [0, 1, 7, 8, 9, 11, 35, 36, 37])
      (Stmt.seq (Stmt.region [SOper.mk (some 43) none (SOp.mv (Operand.tmp 11))] [0, 1, 7, 8, 9, 35, 36, 37, 43])
        (Stmt.cond (Operand.tmp 43)
          (Stmt.region
            [SOper.mk (some 44) none (SOp.mv (Operand.tmp 9)),
              SOper.mk (some 45) none (SOp.ibin BinOp.add (Operand.tmp 44) (Operand.const (Value.int IntKind.i64 1))),
              SOper.mk (some 9) none (SOp.mv (Operand.tmp 45))]
            [0, 1, 7, 8, 9, 35, 36, 37])
          Stmt.skip))))
def S21_3 : Stmt :=
  Stmt.region
  [SOper.mk (some 46) none (SOp.ibin BinOp.add (Operand.tmp 37) (Operand.const (Value.int IntKind.i64 1))),
    SOper.mk (some 37) none (SOp.mv (Operand.tmp 46))]
  [0, 1, 7, 8, 9, 35, 36, 37]
def S21_4 : Stmt :=
  Stmt.seq
  (Stmt.region [SOper.mk (some 38) none (SOp.ibin BinOp.lss (Operand.tmp 37) (Operand.tmp 36))]
    [0, 1, 7, 8, 9, 35, 36, 37, 38])
  (Stmt.seq (Stmt.cond (Operand.tmp 38) Stmt.skip (Stmt.exit 4)) (Stmt.join S21_2 S21_3 [9] [0, 1, 7, 8, 35, 36, 37]))
def S21_5 : Stmt :=
  Stmt.seq
  (Stmt.seq
    (Stmt.region
      [SOper.mk (some 24) none (SOp.mv (Operand.tmp 8)), SOper.mk (some 25) none (SOp.mv (Operand.tmp 7)),
        SOper.mk (some 26) none (SOp.ibin BinOp.add (Operand.tmp 24) (Operand.tmp 25)),
        SOper.mk (some 27) none (SOp.mv (Operand.tmp 1)), SOper.mk (some 28) none (SOp.len false (Operand.tmp 27)),
        SOper.mk (some 29) none (SOp.ibin BinOp.leq (Operand.tmp 26) (Operand.tmp 28))]
      [0, 1, 7, 8, 29])
    (Stmt.cond (Operand.tmp 29) Stmt.skip (Stmt.exit 2)))
  (Stmt.block 3
    (Stmt.seq (Stmt.region [SOper.mk (some 9) none (SOp.mv (Operand.const (Value.int IntKind.i64 0)))] [0, 1, 7, 8, 9])
      (Stmt.seq
        (Stmt.seq
          (Stmt.region
            [SOper.mk (some 30) none (SOp.mv (Operand.tmp 1)), SOper.mk (some 31) none (SOp.mv (Operand.tmp 8)),
              SOper.mk (some 32) none (SOp.mv (Operand.tmp 8)), SOper.mk (some 33) none (SOp.mv (Operand.tmp 7)),
              SOper.mk (some 34) none (SOp.ibin BinOp.add (Operand.tmp 32) (Operand.tmp 33)),
              SOper.mk (some 35) none (SOp.slc 1 (Operand.tmp 30) (some (Operand.tmp 31)) (some (Operand.tmp 34)) none),
              SOper.mk (some 36) none (SOp.len false (Operand.tmp 35)),
              SOper.mk (some 37) none (SOp.mv (Operand.const (Value.int IntKind.i64 0)))]
            [0, 1, 7, 8, 9, 35, 36, 37])
          (Stmt.block 4 (Stmt.loop S21_4 [9, 37] [0, 1, 7, 8, 35, 36])))
        (Stmt.seq
          (Stmt.region
            [SOper.mk (some 47) none (SOp.mv (Operand.tmp 8)), SOper.mk (some 48) none (SOp.mv (Operand.tmp 7)),
              SOper.mk (some 49) none (SOp.ibin BinOp.add (Operand.tmp 47) (Operand.tmp 48)),
              SOper.mk (some 8) none (SOp.mv (Operand.tmp 49))]
            [0, 1, 7, 8, 9])
          (Stmt.seq
            (Stmt.region
              [SOper.mk (some 50) none (SOp.mv (Operand.tmp 9)), SOper.mk (some 51) none (SOp.mv (Operand.tmp 0)),
                SOper.mk (some 52) none (SOp.ibin BinOp.lss (Operand.tmp 50) (Operand.tmp 51))]
              [0, 1, 7, 8, 9, 52])
            (Stmt.cond (Operand.tmp 52)
              (Stmt.seq
                (Stmt.region
                  [SOper.mk (some 53) none (SOp.mv (Operand.tmp 9)), SOper.mk (some 54) none (SOp.mv (Operand.tmp 8)),
                    SOper.mk (some 4) none (SOp.mv (Operand.tmp 53)), SOper.mk (some 5) none (SOp.mv (Operand.tmp 54)),
                    SOper.mk (some 6) none (SOp.mv (Operand.const (Value.int IntKind.i64 0)))]
                  [4, 5, 6])
                Stmt.ret)
              Stmt.skip))))))
def S21_0 : Stmt :=
  Stmt.seq
  (Stmt.region
    [SOper.mk (some 4) none (SOp.mv (Operand.const (Value.int IntKind.i64 0))),
      SOper.mk (some 5) none (SOp.mv (Operand.const (Value.int IntKind.i64 0))),
      SOper.mk (some 6) none (SOp.mv (Operand.const (Value.int IntKind.i64 0)))]
    [0, 1])
  (Stmt.seq
    (Stmt.seq
      (Stmt.region
        [SOper.mk (some 12) none (SOp.mv (Operand.tmp 0)),
          SOper.mk (some 13) none (SOp.ibin BinOp.lss (Operand.tmp 12) (Operand.const (Value.int IntKind.i64 1))),
          SOper.mk (some 14) none (SOp.mv (Operand.tmp 13)),
          SOper.mk (some 15) (some (14, false)) (SOp.mv (Operand.tmp 0)),
          SOper.mk (some 16) (some (14, false))
            (SOp.ibin BinOp.gtr (Operand.tmp 15) (Operand.const (Value.int IntKind.i64 1000000000))),
          SOper.mk (some 17) none (SOp.pick (Operand.tmp 14) (Operand.const (Value.bool true)) (Operand.tmp 16))]
        [0, 1, 17])
      (Stmt.cond (Operand.tmp 17)
        (Stmt.seq
          (Stmt.region
            [SOper.mk (some 4) none (SOp.mv (Operand.const (Value.int IntKind.i64 0))),
              SOper.mk (some 5) none (SOp.mv (Operand.const (Value.int IntKind.i64 0))),
              SOper.mk (some 6) none (SOp.mv (Operand.const (Value.int IntKind.i64 1)))]
            [4, 5, 6])
          Stmt.ret)
        Stmt.skip))
    (Stmt.seq (Stmt.region [SOper.mk (some 7) none (SOp.mv (Operand.const (Value.int IntKind.i64 0)))] [0, 1, 7])
      (Stmt.seq (Stmt.block 0 (Stmt.loop S21_1 [7] [0, 1]))
        (Stmt.seq
          (Stmt.seq
            (Stmt.region [SOper.mk (some 8) none (SOp.mv (Operand.const (Value.int IntKind.i64 0)))] [0, 1, 7, 8])
            (Stmt.block 2 (Stmt.loop S21_5 [8] [0, 1, 7])))
          (Stmt.seq
            (Stmt.region
              [SOper.mk (some 4) none (SOp.mv (Operand.const (Value.int IntKind.i64 0))),
                SOper.mk (some 5) none (SOp.mv (Operand.const (Value.int IntKind.i64 0))),
                SOper.mk (some 6) none (SOp.mv (Operand.const (Value.int IntKind.i64 5)))]
              [4, 5, 6])
            Stmt.ret)))))
def S21 : FnS := ⟨55, [(4, none), (5, none), (6, none)], S21_0⟩
theorem tr21 : trFn Try.prog 21 [] [[0, 1], [0, 1, 17], [4, 5, 6], [0, 1, 7], [7], [0, 1], [0, 1, 7, 21], [0, 1, 7], [0, 1, 7, 8], [8], [0, 1, 7], [0, 1, 7, 8, 29], [0, 1, 7, 8, 9], [0, 1, 7, 8, 9, 35, 36, 37], [9, 37], [0, 1, 7, 8, 35, 36], [0, 1, 7, 8, 9, 35, 36, 37, 38], [9], [0, 1, 7, 8, 35, 36, 37], [0, 1, 7, 8, 9, 11, 35, 36, 37], [0, 1, 7, 8, 9, 11, 35, 36, 37], [0, 1, 7, 8, 9, 35, 36, 37, 43], [0, 1, 7, 8, 9, 35, 36, 37], [0, 1, 7, 8, 9, 35, 36, 37], [0, 1, 7, 8, 9], [0, 1, 7, 8, 9, 52], [4, 5, 6], [4, 5, 6]] = some S21 := by kernel_rfl
end Go.Proofs.Ytniobbepliknmaa.V
/- The text of parlance/parlref5.Coins as a statement (slots: 0 n, 1 coins, 2 n, 3 coins, 7 k, 8 p, 9 i, 10 part, 11 x, 12 j); no condition. -/
namespace Go.Proofs.Ytniobbepliknmaa.V
open Go
def S22_1 : Stmt :=
  Stmt.seq
  (Stmt.seq
    (Stmt.region
      [SOper.mk (some 13) none (SOp.mv (Operand.tmp 8)), SOper.mk (some 14) none (SOp.mv (Operand.tmp 0)),
        SOper.mk (some 15) none (SOp.ibin BinOp.lss (Operand.tmp 13) (Operand.tmp 14))]
      [0, 1, 7, 8, 15])
    (Stmt.cond (Operand.tmp 15) Stmt.skip (Stmt.exit 0)))
  (Stmt.seq
    (Stmt.block 1
      (Stmt.region
        [SOper.mk (some 18) none (SOp.mv (Operand.tmp 7)),
          SOper.mk (some 19) none (SOp.ibin BinOp.add (Operand.tmp 18) (Operand.const (Value.int IntKind.i64 1))),
          SOper.mk (some 7) none (SOp.mv (Operand.tmp 19))]
        [0, 1, 7, 8]))
    (Stmt.region
      [SOper.mk (some 16) none (SOp.mv (Operand.tmp 8)),
        SOper.mk (some 17) none (SOp.ibin BinOp.mul (Operand.tmp 16) (Operand.const (Value.int IntKind.i64 2))),
        SOper.mk (some 8) none (SOp.mv (Operand.tmp 17))]
      [0, 1, 7, 8]))
def S22_2 : Stmt :=
  Stmt.block 5
  (Stmt.seq
    (Stmt.region [SOper.mk (some 40) none (SOp.mv (Operand.tmp 38)), SOper.mk (some 12) none (SOp.mv (Operand.tmp 40))]
      [0, 1, 7, 9, 10, 11, 12, 37, 38])
    (Stmt.seq
      (Stmt.region
        [SOper.mk (some 41) none (SOp.mv (Operand.tmp 10)), SOper.mk (some 42) none (SOp.mv (Operand.tmp 12)),
          SOper.mk (some 43) none (SOp.idx 1 (Operand.tmp 41) (Operand.tmp 42)),
          SOper.mk (some 44) none (SOp.load false 1 (Operand.tmp 43))]
        [0, 1, 7, 9, 10, 11, 12, 37, 38, 44])
      (Stmt.cond (Operand.tmp 44)
        (Stmt.region
          [SOper.mk (some 45) none (SOp.mv (Operand.tmp 11)), SOper.mk (some 46) none (SOp.mv (Operand.tmp 7)),
            SOper.mk (some 47) none (SOp.ibin BinOp.sub (Operand.tmp 46) (Operand.const (Value.int IntKind.i64 1))),
            SOper.mk (some 48) none (SOp.mv (Operand.tmp 12)),
            SOper.mk (some 49) none (SOp.ibin BinOp.sub (Operand.tmp 47) (Operand.tmp 48)),
            SOper.mk (some 50) none (SOp.ishift BinOp.shl (Operand.const (Value.int IntKind.i64 1)) (Operand.tmp 49)),
            SOper.mk (some 51) none (SOp.ibin BinOp.add (Operand.tmp 45) (Operand.tmp 50)),
            SOper.mk (some 11) none (SOp.mv (Operand.tmp 51))]
          [0, 1, 7, 9, 10, 11, 37, 38])
        Stmt.skip)))
def S22_3 : Stmt :=
  Stmt.region
  [SOper.mk (some 52) none (SOp.ibin BinOp.add (Operand.tmp 38) (Operand.const (Value.int IntKind.i64 1))),
    SOper.mk (some 38) none (SOp.mv (Operand.tmp 52))]
  [0, 1, 7, 9, 10, 11, 37, 38]
def S22_4 : Stmt :=
  Stmt.seq
  (Stmt.region [SOper.mk (some 39) none (SOp.ibin BinOp.lss (Operand.tmp 38) (Operand.tmp 37))]
    [0, 1, 7, 9, 10, 11, 37, 38, 39])
  (Stmt.seq (Stmt.cond (Operand.tmp 39) Stmt.skip (Stmt.exit 4)) (Stmt.join S22_2 S22_3 [11] [0, 1, 7, 9, 10, 37, 38]))
def S22_5 : Stmt :=
  Stmt.seq
  (Stmt.seq
    (Stmt.region
      [SOper.mk (some 20) none (SOp.mv (Operand.tmp 9)), SOper.mk (some 21) none (SOp.mv (Operand.tmp 7)),
        SOper.mk (some 22) none (SOp.ibin BinOp.mul (Operand.tmp 20) (Operand.tmp 21)),
        SOper.mk (some 23) none (SOp.mv (Operand.tmp 1)), SOper.mk (some 24) none (SOp.len false (Operand.tmp 23)),
        SOper.mk (some 25) none (SOp.ibin BinOp.leq (Operand.tmp 22) (Operand.tmp 24))]
      [0, 1, 7, 9, 25])
    (Stmt.cond (Operand.tmp 25) Stmt.skip (Stmt.exit 2)))
  (Stmt.seq
    (Stmt.block 3
      (Stmt.seq
        (Stmt.region
          [SOper.mk (some 28) none (SOp.mv (Operand.tmp 1)), SOper.mk (some 29) none (SOp.mv (Operand.tmp 9)),
            SOper.mk (some 30) none (SOp.mv (Operand.tmp 7)),
            SOper.mk (some 31) none (SOp.ibin BinOp.mul (Operand.tmp 29) (Operand.tmp 30)),
            SOper.mk (some 32) none (SOp.slc 1 (Operand.tmp 28) (some (Operand.tmp 31)) none none),
            SOper.mk (some 10) none (SOp.mv (Operand.tmp 32))]
          [0, 1, 7, 9, 10])
        (Stmt.seq
          (Stmt.seq
            (Stmt.region
              [SOper.mk (some 33) none (SOp.mv (Operand.tmp 10)),
                SOper.mk (some 34) none (SOp.len false (Operand.tmp 33)),
                SOper.mk (some 35) none (SOp.mv (Operand.tmp 7)),
                SOper.mk (some 36) none (SOp.ibin BinOp.lss (Operand.tmp 34) (Operand.tmp 35))]
              [0, 1, 7, 9, 10, 36])
            (Stmt.cond (Operand.tmp 36)
              (Stmt.seq
                (Stmt.region
                  [SOper.mk (some 4) none (SOp.mv (Operand.const (Value.int IntKind.i64 0))),
                    SOper.mk (some 5) none (SOp.mv (Operand.const (Value.int IntKind.i64 0))),
                    SOper.mk (some 6) none (SOp.mv (Operand.const (Value.bool false)))]
                  [4, 5, 6])
                Stmt.ret)
              Stmt.skip))
          (Stmt.seq
            (Stmt.region [SOper.mk (some 11) none (SOp.mv (Operand.const (Value.int IntKind.i64 0)))]
              [0, 1, 7, 9, 10, 11])
            (Stmt.seq
              (Stmt.seq
                (Stmt.region
                  [SOper.mk (some 37) none (SOp.mv (Operand.tmp 7)),
                    SOper.mk (some 38) none (SOp.mv (Operand.const (Value.int IntKind.i64 0)))]
                  [0, 1, 7, 9, 10, 11, 37, 38])
                (Stmt.block 4 (Stmt.loop S22_4 [11, 38] [0, 1, 7, 9, 10, 37])))
              (Stmt.seq
                (Stmt.region
                  [SOper.mk (some 53) none (SOp.mv (Operand.tmp 11)), SOper.mk (some 54) none (SOp.mv (Operand.tmp 0)),
                    SOper.mk (some 55) none (SOp.ibin BinOp.lss (Operand.tmp 53) (Operand.tmp 54))]
                  [0, 1, 7, 9, 11, 55])
                (Stmt.cond (Operand.tmp 55)
                  (Stmt.seq
                    (Stmt.region
                      [SOper.mk (some 56) none (SOp.mv (Operand.tmp 11)),
                        SOper.mk (some 57) none (SOp.mv (Operand.tmp 9)),
                        SOper.mk (some 58) none
                          (SOp.ibin BinOp.add (Operand.tmp 57) (Operand.const (Value.int IntKind.i64 1))),
                        SOper.mk (some 59) none (SOp.mv (Operand.tmp 7)),
                        SOper.mk (some 60) none (SOp.ibin BinOp.mul (Operand.tmp 58) (Operand.tmp 59)),
                        SOper.mk (some 4) none (SOp.mv (Operand.tmp 56)),
                        SOper.mk (some 5) none (SOp.mv (Operand.tmp 60)),
                        SOper.mk (some 6) none (SOp.mv (Operand.const (Value.bool true)))]
                      [4, 5, 6])
                    Stmt.ret)
                  Stmt.skip)))))))
    (Stmt.region
      [SOper.mk (some 26) none (SOp.mv (Operand.tmp 9)),
        SOper.mk (some 27) none (SOp.ibin BinOp.add (Operand.tmp 26) (Operand.const (Value.int IntKind.i64 1))),
        SOper.mk (some 9) none (SOp.mv (Operand.tmp 27))]
      [0, 1, 7, 9]))
def S22_0 : Stmt :=
  Stmt.seq
  (Stmt.region
    [SOper.mk (some 4) none (SOp.mv (Operand.const (Value.int IntKind.i64 0))),
      SOper.mk (some 5) none (SOp.mv (Operand.const (Value.int IntKind.i64 0))),
      SOper.mk (some 6) none (SOp.mv (Operand.const (Value.bool false)))]
    [0, 1])
  (Stmt.seq (Stmt.region [SOper.mk (some 7) none (SOp.mv (Operand.const (Value.int IntKind.i64 0)))] [0, 1, 7])
    (Stmt.seq
      (Stmt.seq (Stmt.region [SOper.mk (some 8) none (SOp.mv (Operand.const (Value.int IntKind.i64 1)))] [0, 1, 7, 8])
        (Stmt.block 0 (Stmt.loop S22_1 [7, 8] [0, 1])))
      (Stmt.seq
        (Stmt.seq (Stmt.region [SOper.mk (some 9) none (SOp.mv (Operand.const (Value.int IntKind.i64 0)))] [0, 1, 7, 9])
          (Stmt.block 2 (Stmt.loop S22_5 [9] [0, 1, 7])))
        (Stmt.seq
          (Stmt.region
            [SOper.mk (some 4) none (SOp.mv (Operand.const (Value.int IntKind.i64 0))),
              SOper.mk (some 5) none (SOp.mv (Operand.const (Value.int IntKind.i64 0))),
              SOper.mk (some 6) none (SOp.mv (Operand.const (Value.bool false)))]
            [4, 5, 6])
          Stmt.ret))))
def S22 : FnS := ⟨61, [(4, none), (5, none), (6, none)], S22_0⟩
theorem tr22 : trFn Try.prog 22 [] [[0, 1], [0, 1, 7], [0, 1, 7, 8], [7, 8], [0, 1], [0, 1, 7, 8, 15], [0, 1, 7, 8], [0, 1, 7, 8], [0, 1, 7, 9], [9], [0, 1, 7], [0, 1, 7, 9, 25], [0, 1, 7, 9, 10], [0, 1, 7, 9, 10, 36], [4, 5, 6], [0, 1, 7, 9, 10, 11], [0, 1, 7, 9, 10, 11, 37, 38], [11, 38], [0, 1, 7, 9, 10, 37], [0, 1, 7, 9, 10, 11, 37, 38, 39], [11], [0, 1, 7, 9, 10, 37, 38], [0, 1, 7, 9, 10, 11, 12, 37, 38], [0, 1, 7, 9, 10, 11, 12, 37, 38, 44], [0, 1, 7, 9, 10, 11, 37, 38], [0, 1, 7, 9, 10, 11, 37, 38], [0, 1, 7, 9, 11, 55], [4, 5, 6], [0, 1, 7, 9], [4, 5, 6]] = some S22 := by kernel_rfl
end Go.Proofs.Ytniobbepliknmaa.V
/- Numbers by coins: the plain law of draw.Number and parlref5.Coins, and both walked; no condition. -/
namespace Go.Proofs.Ytniobbepliknmaa.V
open Go
set_option linter.unusedVariables false
set_option linter.unusedSimpArgs false
attribute [local go_sem] e_seq e_region e_quiet e_join e_loop e_cond e_block e_exit e_ret e_skip e_fin e_kseq e_snrm e_sret e_sex e_bnrm e_bret e_bex e_rnrm e_rret e_res e_condC e_nil e_g e_mv g_mv e_pick g_pick pickC_eq e_ibin g_ibin ibinC_eq e_sbin g_sbin e_beq g_beq beqC_eq e_nilq g_nilq nilqC_sl nilqC_pt nilqC_mp e_un g_un unC_not unC_neg e_conv g_conv convC_eq e_fld g_fld fldC_ref fldC_ptr e_nilCheck g_nilCheck nilCheckC_ref nilCheckC_ptr nilCheckC_fun e_field g_field fieldC_eq e_len g_len lenC_sl lenC_str e_extract g_extract extractC_eq e_mkFunc e_build g_build e_idiv g_idiv idivC_eq e_ishift g_ishift ishiftC_eq e_idx g_idx e_idxA g_idxA e_load g_load loadC_ref loadC_ptr loadB_eq e_slc g_slc e_box boxC_loc boxC_esc e_alloc allocC_loc allocC_esc e_buildS e_store storeC_ref storeC_ptr storeB_eq e_append e_appz e_mk mkC_eq e_call callC_eq e_fn g_fn fnC_eq fnV_min' fnV_max' fnV_rune' e_q g_q e_a e_n g_call g_box g_alloc g_buildS g_store g_append g_mk g_a g_n g_dead e_dead e_callK e_drawn e_tree e_finJ e_tk e_tfin e_tno e_nbt_q e_nbt_qn e_nbt_a e_nbt_an e_nbt_fin e_early_nil e_early_t e_early_f e_nob_nil e_nob_none e_nob_some isBox_dead isBox_v isBox_ref e_dnil e_dk e_ek e_finB vcOps_vc1 e_dcons e_tq e_ekt e_tearly e_talt e_dearly look_nil look_c proj_nil proj_c looks_nil looks_c zip_nil zip_c val_tmp val_const val_func slv_v slv_box slv_ref slot_tmp slot_const slot_func slotL_v slotL_box slotL_ref put_some put_none updBox_c boxSet_box gd_eq slotVals_nil slotVals_c slotVals_b boxV_box boxOn_box slotsOn_nil slotsOn_c slotsOn_b resV_one resV_two vals_nil vals_c allOn_nil allOn_c partOn_nil partOn_c partVals_nil partVals_c fits_nil fits_c fillL_nil fillL_c mkv_one mkv_agg cellsV_agg cellsV_int cellsV_bool cellsV_slice cellsV_string cellsV_pointer cellsV_func cellsV_nilf cellsV_map one'_nil one'_c oc_int oc_bool oc_slice oc_string oc_pointer oc_func oc_nilf oc_map setC_eq iv_add iv_sub iv_mul iv_eql iv_neq iv_lss iv_leq iv_gtr iv_geq iok_add iok_sub iok_mul iok_eql iok_neq iok_lss iok_leq iok_gtr iok_geq pickV_bool args0_nil args0_c bnd_none bnd_some imp_bt imp_bf imp_ebt imp_ebf imp_eb1 imp_np imp_pp beq_tt beq_tf beq_ft beq_ff cond_or cond_and e_round e_meet Int.le_refl Int.toNat_zero decide_true decide_false Bool.or_false Bool.false_or Bool.true_or Bool.or_true Bool.and_false Bool.false_and Bool.bne_false Bool.bne_true beq_iff_eq Int.cast_ofNat_Int not_false_eq_true not_true_eq_false false_and and_false false_implies true_implies true_and and_true Bool.true_and Bool.and_true Bool.not_true Bool.not_false forall_const implies_true List.take_zero List.drop_zero List.take_succ_cons List.drop_succ_cons List.take_nil List.drop_nil List.length_cons List.length_nil List.nil_append List.append_nil List.cons_append Int.toNat_natCast decide_eq_true_eq decide_eq_false_iff_not cond_true cond_false and_self List.getElem?_cons_zero List.getElem?_cons_succ List.set_cons_zero List.set_cons_succ Option.some.injEq exists_eq_left' Nat.zero_add Nat.add_zero Nat.mul_one imp_self true_or or_true or_false false_or Bool.or_eq_true Bool.or_eq_false_iff Bool.and_eq_true Bool.and_eq_false_iff Bool.not_eq_true' Bool.not_eq_false'

/-- the number that coins tell, the first one being worth most -/
def bval (l : List Bool) : Nat := l.foldl (fun x c => 2 * x + c.toNat) 0
def coinsG (n b : Nat) (coins : List Bool) : Nat → Nat → Option (Nat × Nat)
  | 0, _ => none
  | f + 1, used => if used + b ≤ coins.length then
      (if bval ((coins.drop used).take b) < n then some (bval ((coins.drop used).take b), used + b) else coinsG n b coins f (used + b)) else none
/-- how many coins tell a number below n -/
def bitsG (n : Nat) : Nat → Nat → Nat
  | 0, b => b
  | f + 1, b => if 2 ^ b < n then bitsG n f (b + 1) else b
def coinsF (n : Nat) (coins : List Bool) : Option (Nat × Nat) := coinsG n (bitsG n 40 0) coins (coins.length + 1) 0

theorem bval_snoc (l : List Bool) (c : Bool) : bval (l ++ [c]) = 2 * bval l + c.toNat := by simp [bval]
theorem bval_lt (l : List Bool) : bval l < 2 ^ l.length := by
  suffices h : ∀ (l : List Bool) (x : Nat), l.foldl (fun x c => 2 * x + c.toNat) x < (x + 1) * 2 ^ l.length by simpa [bval] using h l 0
  intro l
  induction l with
  | nil => intro x; simp
  | cons c l ih =>
    intro x
    have h := ih (2 * x + c.toNat)
    have hc : c.toNat ≤ 1 := by cases c <;> simp
    simp only [List.foldl_cons, List.length_cons]
    refine Nat.lt_of_lt_of_le h ?_
    rw [Nat.pow_succ, Nat.mul_comm (2 ^ l.length) 2, ← Nat.mul_assoc]
    exact Nat.mul_le_mul_right _ (by omega)

/-- the bits that are found are few -/
theorem bitsG_le (n : Nat) (hn : n ≤ 2 ^ 40) : ∀ f b, b + f = 40 → bitsG n f b ≤ 40
  | 0, b, h => by simp [bitsG]; omega
  | f + 1, b, h => by
    simp only [bitsG]
    split
    · exact bitsG_le n hn f (b + 1) (by omega)
    · omega

theorem shl_one (b : Nat) (hb : b ≤ 40) : ishiftV .shl .i64 1 (b : Int) = .int .i64 ((2 ^ b : Nat) : Int) := by
  have h1 : min (b : Int).toNat IntKind.i64.bits = b := by
    have : IntKind.i64.bits = 64 := rfl
    rw [this]; omega
  have h2 : (2 : Nat) ^ b ≤ 2 ^ 40 := Nat.pow_le_pow_right (by omega) hb
  simp only [ishiftV, h1, Int.one_mul]
  rw [wrap_id]
  · simp
  · have : (0 : Int) ≤ ((2 ^ b : Nat) : Int) := Int.natCast_nonneg _
    simp at this ⊢; omega
  · have h3 : ((2 ^ b : Nat) : Int) ≤ ((2 ^ 40 : Nat) : Int) := by exact_mod_cast h2
    simp at h3 ⊢; omega

theorem draw_number {Γr : Ctx} (n : Int) (A : Option Addr) (c : Nat) (coins : List Bool) (hc : SlOk (lk Γr) A c coins) :
    Ret Try.prog 21 [.int .i64 n, .slice A coins.length c] Γr [] (fun v Γ => Γ = [] ∧
      v = if n < 1 ∨ 1000000000 < n then .tuple #[.int .i64 0, .int .i64 0, .int .i64 1] else
        match coinsF n.toNat coins with
        | some (x, u) => .tuple #[.int .i64 x, .int .i64 u, .int .i64 0]
        | none => .tuple #[.int .i64 0, .int .i64 0, .int .i64 5]) := by
  generalize hR : (fun v Γ => Γ = [] ∧ v = _) = R
  refine ret_of_vc tr21 (Nat.le_of_ble_eq_true rfl) ?_
  simp only [S21, S21_0, go_sem, Nat.reduceBEq, Nat.reduceAdd, Nat.reduceSub, Nat.reduceMul, Nat.reduceLeDiff, reduceCtorEq, ↓reduceIte, Int.reduceLT, Int.reduceLE, Int.reduceEq, Int.reduceNe]
  refine ⟨fun h => Up.here ?_, fun hn => ?_⟩
  · subst hR
    rw [if_pos h]
    exact ⟨rfl, rfl⟩
  have hno : ¬ (n < 1 ∨ 1000000000 < n) := by omega
  obtain ⟨m, rfl⟩ : ∃ m : Nat, n = m := ⟨n.toNat, by omega⟩
  have hlen := hc.short
  have hm40 : m ≤ 2 ^ 40 := by omega
  -- how many bits
  refine s_loop (fun f vs Γ => Γ = [] ∧ ∃ b : Nat, vs = [.v true (.int .i64 b)] ∧ b + f = 40 ∧ bitsG m f b = bitsG m 40 0) 40 (Up.here ⟨rfl, 0, rfl, rfl, rfl⟩) ?_
  rintro f vs Γ ⟨rfl, b, rfl, hbf, hb⟩
  simp only [S21_1, go_sem, Nat.reduceBEq, Nat.reduceAdd, Nat.reduceSub, Nat.reduceMul, Nat.reduceLeDiff, reduceCtorEq, ↓reduceIte, Int.reduceLT, Int.reduceLE, Int.reduceEq, Int.reduceNe]
  have hb40 : b ≤ 40 := by omega
  rw [shl_one b hb40]
  simp only [go_sem, Nat.reduceBEq, Nat.reduceAdd, Nat.reduceSub, Nat.reduceMul, Nat.reduceLeDiff, reduceCtorEq, ↓reduceIte, Int.reduceLT, Int.reduceLE, Int.reduceEq, Int.reduceNe]
  refine ⟨by omega, fun hlt => ?_, fun hge => ?_⟩
  · have hf : f ≠ 0 := by
      intro h0
      subst h0
      have : b = 40 := by omega
      subst this
      omega
    obtain ⟨f, rfl⟩ := Nat.exists_eq_succ_of_ne_zero hf
    refine ⟨f, by omega, Up.here ⟨rfl, b + 1, ?_, by omega, ?_⟩⟩
    · rw [wrap_id (by omega) (by omega)]; rfl
    · rw [← hb]
      have : 2 ^ b < m := by exact_mod_cast hlt
      simp [bitsG, this]
  · have hbits : bitsG m 40 0 = b := by
      rw [← hb]
      have : ¬ 2 ^ b < m := by intro q; exact hge (by exact_mod_cast q)
      cases f <;> simp [bitsG, this]
    -- chunk after chunk
    refine s_loop (fun f vs Γ => Γ = [] ∧ ∃ used : Nat, vs = [.v true (.int .i64 used)] ∧ used ≤ coins.length ∧ coins.length < f + used ∧ coinsG m b coins f used = coinsF m coins) (coins.length + 1)
      (Up.here ⟨rfl, 0, rfl, by omega, by omega, by rw [coinsF, hbits]⟩) ?_
    rintro f vs Γ ⟨rfl, used, rfl, hu, hfu, hres⟩
    simp only [S21_5, go_sem, Nat.reduceBEq, Nat.reduceAdd, Nat.reduceSub, Nat.reduceMul, Nat.reduceLeDiff, reduceCtorEq, ↓reduceIte, Int.reduceLT, Int.reduceLE, Int.reduceEq, Int.reduceNe]
    obtain ⟨f, rfl⟩ : ∃ k, f = k + 1 := ⟨f - 1, by omega⟩
    rw [wrap_id (by omega) (by omega)]
    simp only [coinsG] at hres
    refine ⟨fun hle => ?_, fun hgt => ?_⟩
    · have hle' : used + b ≤ coins.length := by omega
      rw [if_pos hle'] at hres
      refine s_slice used (used + b) ?_ ?_ (by omega) (by have := hc.cap; omega) ?_
      · simp only [go_sem, Nat.reduceBEq, Nat.reduceAdd, Nat.reduceSub, Nat.reduceMul, Nat.reduceLeDiff, reduceCtorEq, ↓reduceIte, Int.reduceLT, Int.reduceLE, Int.reduceEq, Int.reduceNe]
        exact ⟨.i64, rfl⟩
      · simp only [go_sem, Nat.reduceBEq, Nat.reduceAdd, Nat.reduceSub, Nat.reduceMul, Nat.reduceLeDiff, reduceCtorEq, ↓reduceIte, Int.reduceLT, Int.reduceLE, Int.reduceEq, Int.reduceNe]
        exact ⟨.i64, by simp⟩
      simp only [go_sem, Nat.reduceBEq, Nat.reduceAdd, Nat.reduceSub, Nat.reduceMul, Nat.reduceLeDiff, reduceCtorEq, ↓reduceIte, Int.reduceLT, Int.reduceLE, Int.reduceEq, Int.reduceNe]
      have hsl := hc.slice (l := used) (m := used + b) (by omega) hle'
      have hck : (coins.take (used + b)).drop used = (coins.drop used).take b := by
        rw [← List.take_drop]
      rw [hck] at hsl
      obtain ⟨ch, hch⟩ : ∃ ch, ch = (coins.drop used).take b := ⟨_, rfl⟩
      have hcl : ch.length = b := by rw [hch]; simp; omega
      rw [← hch] at hsl hres
      obtain ⟨A', hA'⟩ : ∃ A', A' = (if c = used then A else A.map (fun x => x.add used)) := ⟨_, rfl⟩
      have hsl' : SlOk (lk Γr) A' (c - used) ch := by rw [hA']; simpa [Rep.sz] using hsl
      rw [← hA', show used + b - used = b by omega]
      -- the number that the chunk tells
      refine s_loop (fun g vs Γ => Γ = [] ∧ ∃ j : Nat, vs = [.v true (.int .i64 (bval (ch.take j) : Nat)), .v true (.int .i64 j)] ∧ j + g = b) b
        (Up.here ⟨rfl, 0, by simp [bval, looks, look], by omega⟩) ?_
      rintro g vs Γ ⟨rfl, j, rfl, hjg⟩
      have hbv := bval_lt (ch.take j)
      have hb2 : 2 ^ (ch.take j).length ≤ 2 ^ 40 := Nat.pow_le_pow_right (by omega) (by simp; omega)
      simp only [S21_4, go_sem, Nat.reduceBEq, Nat.reduceAdd, Nat.reduceSub, Nat.reduceMul, Nat.reduceLeDiff, reduceCtorEq, ↓reduceIte, Int.reduceLT, Int.reduceLE, Int.reduceEq, Int.reduceNe]
      refine ⟨fun hlt => ?_, fun hge2 => ?_⟩
      · have hj : j < b := by omega
        have hjc : j < ch.length := by omega
        refine s_split ?_
        obtain ⟨bb, oo, rfl, cs, hok, hcells⟩ := hsl'.elem (i := j) (x := ch[j]) (List.getElem?_eq_getElem hjc)
        obtain rfl := ok_bool hok
        simp only [S21_2, S21_3, go_sem, Nat.reduceBEq, Nat.reduceAdd, Nat.reduceSub, Nat.reduceMul, Nat.reduceLeDiff, reduceCtorEq, ↓reduceIte, Int.reduceLT, Int.reduceLE, Int.reduceEq, Int.reduceNe]
        refine s_idx rfl (by omega) (by omega) ?_
        simp only [go_sem, Nat.reduceBEq, Nat.reduceAdd, Nat.reduceSub, Nat.reduceMul, Nat.reduceLeDiff, reduceCtorEq, ↓reduceIte, Int.reduceLT, Int.reduceLE, Int.reduceEq, Int.reduceNe]
        refine s_load (vs := [.bool ch[j]]) (by simpa [Rep.sz] using hcells _ (Mem.le.refl _)) ?_
        simp only [go_sem, Nat.reduceBEq, Nat.reduceAdd, Nat.reduceSub, Nat.reduceMul, Nat.reduceLeDiff, reduceCtorEq, ↓reduceIte, Int.reduceLT, Int.reduceLE, Int.reduceEq, Int.reduceNe]
        have w1 : IntKind.i64.wrap (((bval (ch.take j) : Nat) : Int) * 2) = ((bval (ch.take j) : Nat) : Int) * 2 := wrap_id (by omega) (by omega)
        have w2 : IntKind.i64.wrap (((bval (ch.take j) : Nat) : Int) * 2 + 1) = ((bval (ch.take j) : Nat) : Int) * 2 + 1 := wrap_id (by omega) (by omega)
        have w3 : IntKind.i64.wrap ((j : Int) + 1) = (j : Int) + 1 := wrap_id (by omega) (by omega)
        simp only [w1, w2, w3]
        have htake : ch.take (j + 1) = ch.take j ++ [ch[j]] := by rw [List.take_succ_eq_append_getElem hjc]
        have hstep : bval (ch.take (j + 1)) = 2 * bval (ch.take j) + ch[j].toNat := by rw [htake, bval_snoc]
        refine ⟨fun ht => ?_, fun ht => ?_⟩
        · refine Up.here ⟨g - 1, by omega, Up.here ⟨rfl, j + 1, ?_, by omega⟩⟩
          rw [hstep, ht]
          simp
          omega
        · refine Up.here ⟨g - 1, by omega, Up.here ⟨rfl, j + 1, ?_, by omega⟩⟩
          rw [hstep, ht]
          simp
          omega
      · have hj : j = b := by omega
        subst hj
        have htk : ch.take j = ch := by rw [← hcl]; exact List.take_length
        rw [htk]
        rw [wrap_id (by omega) (by omega)]
        refine ⟨fun hlt => ?_, fun hge3 => ?_⟩
        · have : bval ch < m := by exact_mod_cast hlt
          rw [if_pos this] at hres
          refine Up.here ?_
          subst hR
          refine ⟨rfl, ?_⟩
          rw [if_neg hno]
          simp [← hres]
        · have : ¬ bval ch < m := by intro q; exact hge3 (by exact_mod_cast q)
          rw [if_neg this] at hres
          have hjpos : 0 < j := by
            rcases Nat.eq_zero_or_pos j with q | q
            · subst q
              have : ch = [] := List.eq_nil_of_length_eq_zero hcl
              subst this
              simp [bval] at hge3
              omega
            · exact q
          exact ⟨f, by omega, Up.here ⟨rfl, used + j, by simp, hle', by omega, hres⟩⟩
    · have hgt' : ¬ used + b ≤ coins.length := by omega
      rw [if_neg hgt'] at hres
      refine Up.here ?_
      subst hR
      refine ⟨rfl, ?_⟩
      rw [if_neg hno]
      simp [← hres]

theorem ref_coins {Γr : Ctx} (m : Nat) (hm0 : 1 ≤ m) (hm1 : m ≤ 1000000000) (A : Option Addr) (c : Nat) (coins : List Bool) (hc : SlOk (lk Γr) A c coins) :
    Ret Try.prog 22 [.int .i64 m, .slice A coins.length c] Γr [] (fun v Γ => Γ = [] ∧
      v = match coinsF m coins with
        | some (x, u) => .tuple #[.int .i64 x, .int .i64 u, .bool true]
        | none => .tuple #[.int .i64 0, .int .i64 0, .bool false]) := by
  generalize hR : (fun v Γ => Γ = [] ∧ v = _) = R
  refine ret_of_vc tr22 (Nat.le_of_ble_eq_true rfl) ?_
  simp only [S22, S22_0, go_sem, Nat.reduceBEq, Nat.reduceAdd, Nat.reduceSub, Nat.reduceMul, Nat.reduceLeDiff, reduceCtorEq, ↓reduceIte, Int.reduceLT, Int.reduceLE, Int.reduceEq, Int.reduceNe]
  have hlen := hc.short
  refine s_loop (fun f vs Γ => Γ = [] ∧ ∃ b : Nat, vs = [.v true (.int .i64 b), .v true (.int .i64 (2 ^ b : Nat))] ∧ b + f = 40 ∧ bitsG m f b = bitsG m 40 0) 40 (Up.here ⟨rfl, 0, rfl, rfl, rfl⟩) ?_
  rintro f vs Γ ⟨rfl, b, rfl, hbf, hb⟩
  have hb40 : b ≤ 40 := by omega
  have hpow : 2 ^ b ≤ 2 ^ 40 := Nat.pow_le_pow_right (by omega) hb40
  simp only [S22_1, go_sem, Nat.reduceBEq, Nat.reduceAdd, Nat.reduceSub, Nat.reduceMul, Nat.reduceLeDiff, reduceCtorEq, ↓reduceIte, Int.reduceLT, Int.reduceLE, Int.reduceEq, Int.reduceNe]
  refine ⟨fun hlt => ?_, fun hge => ?_⟩
  · have hlt' : 2 ^ b < m := by exact_mod_cast hlt
    have hf : f ≠ 0 := by
      intro h0
      subst h0
      have : b = 40 := by omega
      subst this
      omega
    obtain ⟨f, rfl⟩ := Nat.exists_eq_succ_of_ne_zero hf
    refine ⟨f, by omega, Up.here ⟨rfl, b + 1, ?_, by omega, ?_⟩⟩
    · have hq : IntKind.i64.wrap (((2 ^ b : Nat) : Int) * 2) = ((2 ^ (b + 1) : Nat) : Int) := by
        rw [Nat.pow_succ]
        obtain ⟨p, hp⟩ : ∃ p, p = 2 ^ b := ⟨_, rfl⟩
        rw [← hp] at hpow ⊢
        rw [wrap_id (by omega) (by omega)]
        rfl
      have hq2 : IntKind.i64.wrap ((b : Int) + 1) = ((b + 1 : Nat) : Int) := wrap_id (by omega) (by omega)
      rw [hq, hq2]
    · rw [← hb]
      simp [bitsG, hlt']
  · have hge' : ¬ 2 ^ b < m := by intro q; exact hge (by exact_mod_cast q)
    have hbits : bitsG m 40 0 = b := by
      rw [← hb]
      cases f <;> simp [bitsG, hge']
    refine s_loop (fun f vs Γ => Γ = [] ∧ ∃ i used : Nat, vs = [.v true (.int .i64 i)] ∧ used = i * b ∧ i ≤ used ∧ used ≤ coins.length ∧ coins.length < f + used ∧ coinsG m b coins f used = coinsF m coins) (coins.length + 1)
      (Up.here ⟨rfl, 0, 0, rfl, by omega, by omega, by omega, by omega, by rw [coinsF, hbits]⟩) ?_
    rintro f vs Γ ⟨rfl, i, used, rfl, hui, hiu, hu, hfu, hres⟩
    have wi : IntKind.i64.wrap ((i : Int) * (b : Int)) = (used : Int) := by
      have : (i : Int) * (b : Int) = (used : Int) := by rw [hui]; simp
      rw [this]
      exact wrap_id (by omega) (by omega)
    simp only [S22_5, wi, go_sem, Nat.reduceBEq, Nat.reduceAdd, Nat.reduceSub, Nat.reduceMul, Nat.reduceLeDiff, reduceCtorEq, ↓reduceIte, Int.reduceLT, Int.reduceLE, Int.reduceEq, Int.reduceNe]
    obtain ⟨f, rfl⟩ : ∃ k, f = k + 1 := ⟨f - 1, by omega⟩
    simp only [coinsG] at hres
    refine ⟨fun _ => ?_, fun hgt => by omega⟩
    refine s_slice used coins.length ?_ ?_ (by omega) hc.cap ?_
    · simp only [go_sem, Nat.reduceBEq, Nat.reduceAdd, Nat.reduceSub, Nat.reduceMul, Nat.reduceLeDiff, reduceCtorEq, ↓reduceIte, Int.reduceLT, Int.reduceLE, Int.reduceEq, Int.reduceNe]
      exact ⟨.i64, rfl⟩
    · simp only [go_sem, Nat.reduceBEq, Nat.reduceAdd, Nat.reduceSub, Nat.reduceMul, Nat.reduceLeDiff, reduceCtorEq, ↓reduceIte, Int.reduceLT, Int.reduceLE, Int.reduceEq, Int.reduceNe]
    simp only [go_sem, Nat.reduceBEq, Nat.reduceAdd, Nat.reduceSub, Nat.reduceMul, Nat.reduceLeDiff, reduceCtorEq, ↓reduceIte, Int.reduceLT, Int.reduceLE, Int.reduceEq, Int.reduceNe]
    have hsl := hc.slice (l := used) (m := coins.length) (by omega) (Nat.le_refl _)
    rw [List.take_length] at hsl
    refine ⟨fun hshort => ?_, fun hlong => ?_⟩
    · have : ¬ used + b ≤ coins.length := by omega
      rw [if_neg this] at hres
      refine Up.here ?_
      subst hR
      exact ⟨rfl, by simp [← hres]⟩
    have hle' : used + b ≤ coins.length := by omega
    rw [if_pos hle'] at hres
    obtain ⟨A', hA'⟩ : ∃ A', A' = (if c = used then A else A.map (fun x => x.add used)) := ⟨_, rfl⟩
    have hsl' : SlOk (lk Γr) A' (c - used) (coins.drop used) := by rw [hA']; simpa [Rep.sz] using hsl
    rw [← hA']
    obtain ⟨ch, hch⟩ : ∃ ch, ch = (coins.drop used).take b := ⟨_, rfl⟩
    have hcl : ch.length = b := by rw [hch]; simp; omega
    rw [← hch] at hres
    -- the sum of what the coins are worth
    refine s_loop (fun g vs Γ => Γ = [] ∧ ∃ j : Nat, vs = [.v true (.int .i64 (bval (ch.take j) * 2 ^ (b - j) : Nat)), .v true (.int .i64 j)] ∧ j + g = b) b
      (Up.here ⟨rfl, 0, by simp [bval, looks, look], by omega⟩) ?_
    rintro g vs Γ ⟨rfl, j, rfl, hjg⟩
    have hbv := bval_lt (ch.take j)
    have hbnd : bval (ch.take j) * 2 ^ (b - j) + 2 ^ (b - j) ≤ 2 ^ 40 := by
      have h1 : (bval (ch.take j) + 1) * 2 ^ (b - j) ≤ 2 ^ j * 2 ^ (b - j) := Nat.mul_le_mul_right _ (by
        have : (ch.take j).length = j := by simp; omega
        rw [this] at hbv
        omega)
      rw [← Nat.pow_add, show j + (b - j) = b by omega, Nat.add_mul, Nat.one_mul] at h1
      omega
    simp only [S22_4, go_sem, Nat.reduceBEq, Nat.reduceAdd, Nat.reduceSub, Nat.reduceMul, Nat.reduceLeDiff, reduceCtorEq, ↓reduceIte, Int.reduceLT, Int.reduceLE, Int.reduceEq, Int.reduceNe]
    refine ⟨fun hlt => ?_, fun hge2 => ?_⟩
    · have hj : j < b := by omega
      have hjc : j < ch.length := by omega
      have hjd : j < (coins.drop used).length := by simp; omega
      have hcj : (coins.drop used)[j] = ch[j] := by simp [hch]
      refine s_split ?_
      obtain ⟨bb, oo, rfl, cs, hok, hcells⟩ := hsl'.elem (i := j) (x := ch[j]) (by rw [← hcj]; exact List.getElem?_eq_getElem hjd)
      obtain rfl := ok_bool hok
      have w1 : IntKind.i64.wrap ((b : Int) - 1) = (b : Int) - 1 := wrap_id (by omega) (by omega)
      have w2 : IntKind.i64.wrap ((b : Int) - 1 - (j : Int)) = ((b - 1 - j : Nat) : Int) := by rw [wrap_id (by omega) (by omega)]; omega
      have w3 : IntKind.i64.wrap ((j : Int) + 1) = ((j + 1 : Nat) : Int) := wrap_id (by omega) (by omega)
      have hsplit : 2 ^ (b - j) = 2 ^ (b - 1 - j) * 2 := by rw [← Nat.pow_succ]; congr 1; omega
      have w4 : IntKind.i64.wrap (((bval (ch.take j) * 2 ^ (b - j) : Nat) : Int) + ((2 ^ (b - 1 - j) : Nat) : Int)) = ((bval (ch.take j) * 2 ^ (b - j) + 2 ^ (b - 1 - j) : Nat) : Int) := by
        rw [wrap_id (by omega) (by omega)]; rfl
      have htake : ch.take (j + 1) = ch.take j ++ [ch[j]] := by rw [List.take_succ_eq_append_getElem hjc]
      have hstep : bval (ch.take (j + 1)) = 2 * bval (ch.take j) + ch[j].toNat := by rw [htake, bval_snoc]
      have hexp : b - (j + 1) = b - 1 - j := by omega
      have hnext : bval (ch.take (j + 1)) * 2 ^ (b - (j + 1)) = bval (ch.take j) * 2 ^ (b - j) + ch[j].toNat * 2 ^ (b - 1 - j) := by
        rw [hstep, hexp, hsplit, Nat.add_mul, Nat.mul_comm 2, Nat.mul_assoc, Nat.mul_comm 2]
      simp only [S22_2, S22_3, go_sem, Nat.reduceBEq, Nat.reduceAdd, Nat.reduceSub, Nat.reduceMul, Nat.reduceLeDiff, reduceCtorEq, ↓reduceIte, Int.reduceLT, Int.reduceLE, Int.reduceEq, Int.reduceNe]
      refine s_idx rfl (by omega) (by simp; omega) ?_
      simp only [go_sem, Nat.reduceBEq, Nat.reduceAdd, Nat.reduceSub, Nat.reduceMul, Nat.reduceLeDiff, reduceCtorEq, ↓reduceIte, Int.reduceLT, Int.reduceLE, Int.reduceEq, Int.reduceNe]
      refine s_load (vs := [.bool ch[j]]) (by simpa [Rep.sz] using hcells _ (Mem.le.refl _)) ?_
      simp only [w1, w2, shl_one (b - 1 - j) (by omega), w3, w4, go_sem, Nat.reduceBEq, Nat.reduceAdd, Nat.reduceSub, Nat.reduceMul, Nat.reduceLeDiff, reduceCtorEq, ↓reduceIte, Int.reduceLT, Int.reduceLE, Int.reduceEq, Int.reduceNe]
      refine ⟨fun ht => ⟨by omega, ?_⟩, fun ht => ?_⟩
      · refine Up.here ⟨g - 1, by omega, Up.here ⟨rfl, j + 1, ?_, by omega⟩⟩
        rw [hnext, ht]
        simp
      · refine Up.here ⟨g - 1, by omega, Up.here ⟨rfl, j + 1, ?_, by omega⟩⟩
        rw [hnext, ht]
        simp
    · have hj : j = b := by omega
      subst hj
      have htk : ch.take j = ch := by rw [← hcl]; exact List.take_length
      rw [htk]
      simp only [Nat.sub_self, Nat.pow_zero, Nat.mul_one]
      have hx : bval ch < 2 ^ j := by have := bval_lt ch; rwa [hcl] at this
      have hjle : 2 ^ j ≤ 2 ^ 40 := Nat.pow_le_pow_right (by omega) (by omega)
      refine ⟨fun hlt => ?_, fun hge3 => ?_⟩
      · have : bval ch < m := by exact_mod_cast hlt
        rw [if_pos this] at hres
        have w5 : IntKind.i64.wrap ((i : Int) + 1) = ((i + 1 : Nat) : Int) := wrap_id (by omega) (by omega)
        have w6 : IntKind.i64.wrap (((i + 1 : Nat) : Int) * (j : Int)) = ((used + j : Nat) : Int) := by
          have : ((i + 1 : Nat) : Int) * (j : Int) = ((used + j : Nat) : Int) := by rw [hui, ← Nat.add_one_mul]; simp
          rw [this]
          exact wrap_id (by omega) (by omega)
        rw [w5, w6]
        refine Up.here ?_
        subst hR
        exact ⟨rfl, by simp [← hres]⟩
      · have : ¬ bval ch < m := by intro q; exact hge3 (by exact_mod_cast q)
        rw [if_neg this] at hres
        have hjpos : 0 < j := by
          rcases Nat.eq_zero_or_pos j with q | q
          · subst q
            have : ch = [] := List.eq_nil_of_length_eq_zero hcl
            subst this
            simp [bval] at hge3
            omega
          · exact q
        refine ⟨f, by omega, Up.here ⟨rfl, i + 1, used + j, by simp; exact wrap_id (by omega) (by omega), by rw [hui, Nat.add_mul, Nat.one_mul], by omega, hle', by omega, hres⟩⟩
end Go.Proofs.Ytniobbepliknmaa.V
/- The text of slices.Equal[[]int,int] as a statement (slots: 0 s1, 1 s2, 2 s1, 3 s2, 5 i); no condition. -/
namespace Go.Proofs.Ytniobbepliknmaa.V
open Go
def S28_1 : Stmt :=
  Stmt.seq
  (Stmt.region [SOper.mk (some 14) none (SOp.ibin BinOp.lss (Operand.tmp 13) (Operand.tmp 12))] [0, 1, 12, 13, 14])
  (Stmt.seq (Stmt.cond (Operand.tmp 14) Stmt.skip (Stmt.exit 0))
    (Stmt.seq
      (Stmt.block 1
        (Stmt.seq
          (Stmt.region
            [SOper.mk (some 15) none (SOp.mv (Operand.tmp 13)), SOper.mk (some 5) none (SOp.mv (Operand.tmp 15))]
            [0, 1, 5, 12, 13])
          (Stmt.seq
            (Stmt.quiet
              [SOper.mk (some 16) none (SOp.mv (Operand.tmp 0)), SOper.mk (some 17) none (SOp.mv (Operand.tmp 5)),
                SOper.mk (some 18) none (SOp.idx 1 (Operand.tmp 16) (Operand.tmp 17)),
                SOper.mk (some 19) none (SOp.load false 1 (Operand.tmp 18)),
                SOper.mk (some 20) none (SOp.mv (Operand.tmp 1)), SOper.mk (some 21) none (SOp.mv (Operand.tmp 5)),
                SOper.mk (some 22) none (SOp.idx 1 (Operand.tmp 20) (Operand.tmp 21)),
                SOper.mk (some 23) none (SOp.load false 1 (Operand.tmp 22)),
                SOper.mk (some 24) none (SOp.ibin BinOp.neq (Operand.tmp 19) (Operand.tmp 23))]
              [0, 1, 12, 13, 24])
            (Stmt.cond (Operand.tmp 24)
              (Stmt.seq (Stmt.region [SOper.mk (some 4) none (SOp.mv (Operand.const (Value.bool false)))] [4]) Stmt.ret)
              Stmt.skip))))
      (Stmt.region
        [SOper.mk (some 25) none (SOp.ibin BinOp.add (Operand.tmp 13) (Operand.const (Value.int IntKind.i64 1))),
          SOper.mk (some 13) none (SOp.mv (Operand.tmp 25))]
        [0, 1, 12, 13])))
def S28_0 : Stmt :=
  Stmt.seq (Stmt.region [SOper.mk (some 4) none (SOp.mv (Operand.const (Value.bool false)))] [0, 1])
  (Stmt.seq
    (Stmt.seq
      (Stmt.region
        [SOper.mk (some 6) none (SOp.mv (Operand.tmp 0)), SOper.mk (some 7) none (SOp.len false (Operand.tmp 6)),
          SOper.mk (some 8) none (SOp.mv (Operand.tmp 1)), SOper.mk (some 9) none (SOp.len false (Operand.tmp 8)),
          SOper.mk (some 10) none (SOp.ibin BinOp.neq (Operand.tmp 7) (Operand.tmp 9))]
        [0, 1, 10])
      (Stmt.cond (Operand.tmp 10)
        (Stmt.seq (Stmt.region [SOper.mk (some 4) none (SOp.mv (Operand.const (Value.bool false)))] [4]) Stmt.ret)
        Stmt.skip))
    (Stmt.seq
      (Stmt.seq
        (Stmt.region
          [SOper.mk (some 11) none (SOp.mv (Operand.tmp 0)), SOper.mk (some 12) none (SOp.len false (Operand.tmp 11)),
            SOper.mk (some 13) none (SOp.mv (Operand.const (Value.int IntKind.i64 0)))]
          [0, 1, 12, 13])
        (Stmt.block 0 (Stmt.loop S28_1 [13] [0, 1, 12])))
      (Stmt.seq (Stmt.region [SOper.mk (some 4) none (SOp.mv (Operand.const (Value.bool true)))] [4]) Stmt.ret)))
def S28 : FnS := ⟨26, [(4, none)], S28_0⟩
theorem tr28 : trFn Try.prog 28 [] [[0, 1], [0, 1, 10], [4], [0, 1, 12, 13], [13], [0, 1, 12], [0, 1, 12, 13, 14], [0, 1, 5, 12, 13], [0, 1, 12, 13, 24], [4], [0, 1, 12, 13], [4]] = some S28 := by kernel_rfl
end Go.Proofs.Ytniobbepliknmaa.V
/- The text of slices.Delete[[]int,int] as a statement (slots: 0 s, 1 i, 2 j, 3 s, 4 i, 5 j, 7 oldlen); no condition. -/
namespace Go.Proofs.Ytniobbepliknmaa.V
open Go
def S29_0 : Stmt :=
  Stmt.seq (Stmt.region [SOper.mk (some 6) none (SOp.mv (Operand.const (Value.slice none 0 0)))] [0, 1, 2])
  (Stmt.seq
    (Stmt.region
      [SOper.mk (some 8) none (SOp.mv (Operand.tmp 0)), SOper.mk (some 9) none (SOp.mv (Operand.tmp 1)),
        SOper.mk (some 10) none (SOp.mv (Operand.tmp 2)), SOper.mk (some 11) none (SOp.mv (Operand.tmp 0)),
        SOper.mk (some 12) none (SOp.len false (Operand.tmp 11)),
        SOper.mk (some 13) none
          (SOp.q (Qk.slc 29 true true true) [Operand.tmp 8, Operand.tmp 9, Operand.tmp 10, Operand.tmp 12])]
      [0, 1, 2])
    (Stmt.seq
      (Stmt.seq
        (Stmt.region
          [SOper.mk (some 14) none (SOp.mv (Operand.tmp 1)), SOper.mk (some 15) none (SOp.mv (Operand.tmp 2)),
            SOper.mk (some 16) none (SOp.ibin BinOp.eql (Operand.tmp 14) (Operand.tmp 15))]
          [0, 1, 2, 16])
        (Stmt.cond (Operand.tmp 16)
          (Stmt.seq
            (Stmt.region
              [SOper.mk (some 17) none (SOp.mv (Operand.tmp 0)), SOper.mk (some 6) none (SOp.mv (Operand.tmp 17))] [6])
            Stmt.ret)
          Stmt.skip))
      (Stmt.seq
        (Stmt.region
          [SOper.mk (some 18) none (SOp.mv (Operand.tmp 0)), SOper.mk (some 19) none (SOp.len false (Operand.tmp 18)),
            SOper.mk (some 7) none (SOp.mv (Operand.tmp 19))]
          [0, 1, 2, 7])
        (Stmt.seq
          (Stmt.drawn
            [(false, SOper.mk (some 20) none (SOp.mv (Operand.tmp 0))),
              (false, SOper.mk (some 21) none (SOp.mv (Operand.tmp 1))),
              (false, SOper.mk (some 22) none (SOp.slc 1 (Operand.tmp 20) none (some (Operand.tmp 21)) none)),
              (false, SOper.mk (some 23) none (SOp.mv (Operand.tmp 0))),
              (false, SOper.mk (some 24) none (SOp.mv (Operand.tmp 2))),
              (false, SOper.mk (some 25) none (SOp.slc 1 (Operand.tmp 23) (some (Operand.tmp 24)) none none)),
              (false,
                SOper.mk (some 26) none
                  (SOp.append 29 3 1 8 (Value.int IntKind.i64 0) (Operand.tmp 22) (Operand.tmp 25))),
              (false, SOper.mk (some 0) none (SOp.mv (Operand.tmp 26)))]
            [0, 7])
          (Stmt.seq
            (Stmt.region
              [SOper.mk (some 27) none (SOp.mv (Operand.tmp 0)), SOper.mk (some 28) none (SOp.mv (Operand.tmp 0)),
                SOper.mk (some 29) none (SOp.len false (Operand.tmp 28)),
                SOper.mk (some 30) none (SOp.mv (Operand.tmp 7)),
                SOper.mk (some 31) none
                  (SOp.slc 1 (Operand.tmp 27) (some (Operand.tmp 29)) (some (Operand.tmp 30)) none),
                SOper.mk none none (SOp.a (Qk.bi 1 [29]) [Operand.tmp 31])]
              [0])
            (Stmt.seq
              (Stmt.region
                [SOper.mk (some 32) none (SOp.mv (Operand.tmp 0)), SOper.mk (some 6) none (SOp.mv (Operand.tmp 32))]
                [6])
              Stmt.ret))))))
def S29 : FnS := ⟨33, [(6, none)], S29_0⟩
theorem tr29 : trFn Try.prog 29 [] [[0, 1, 2], [0, 1, 2], [0, 1, 2, 16], [6], [0, 1, 2, 7], [0, 7], [0, 1, 2, 3, 4, 5, 6, 7], [], [], [], [0, 1], [], [], [3, 4], [0, 1, 2, 3, 4, 5], [0, 1, 2, 3, 4, 5, 6], [0], [6]] = some S29 := by kernel_rfl
end Go.Proofs.Ytniobbepliknmaa.V
/- The text of parlance/draw.Order as a statement (slots: 0 n, 1 coins, 2 n, 3 coins, 7 left, 8 out, 9 i, 10 used, 11 i, 12 k, 13 e); no condition. -/
namespace Go.Proofs.Ytniobbepliknmaa.V
open Go
def S27_1 : Stmt :=
  Stmt.seq
  (Stmt.region [SOper.mk (some 22) none (SOp.ibin BinOp.lss (Operand.tmp 21) (Operand.tmp 20))] [1, 7, 8, 20, 21, 22])
  (Stmt.seq (Stmt.cond (Operand.tmp 22) Stmt.skip (Stmt.exit 0))
    (Stmt.seq
      (Stmt.block 1
        (Stmt.seq
          (Stmt.region
            [SOper.mk (some 23) none (SOp.mv (Operand.tmp 21)), SOper.mk (some 9) none (SOp.mv (Operand.tmp 23))]
            [1, 7, 8, 9, 20, 21])
          (Stmt.region
            [SOper.mk (some 24) none (SOp.mv (Operand.tmp 7)), SOper.mk (some 25) none (SOp.mv (Operand.tmp 9)),
              SOper.mk (some 26) none (SOp.buildS 3 1 [Value.int IntKind.i64 0] [(0, 1, Operand.tmp 25)]),
              SOper.mk (some 27) none (SOp.append 29 3 1 8 (Value.int IntKind.i64 0) (Operand.tmp 24) (Operand.tmp 26)),
              SOper.mk (some 7) none (SOp.mv (Operand.tmp 27))]
            [1, 7, 8, 20, 21])))
      (Stmt.region
        [SOper.mk (some 28) none (SOp.ibin BinOp.add (Operand.tmp 21) (Operand.const (Value.int IntKind.i64 1))),
          SOper.mk (some 21) none (SOp.mv (Operand.tmp 28))]
        [1, 7, 8, 20, 21])))
def S27_2 : Stmt :=
  Stmt.seq
  (Stmt.seq
    (Stmt.region
      [SOper.mk (some 29) none (SOp.mv (Operand.tmp 7)), SOper.mk (some 30) none (SOp.len false (Operand.tmp 29)),
        SOper.mk (some 31) none (SOp.ibin BinOp.gtr (Operand.tmp 30) (Operand.const (Value.int IntKind.i64 0)))]
      [1, 7, 8, 10, 31])
    (Stmt.cond (Operand.tmp 31) Stmt.skip (Stmt.exit 2)))
  (Stmt.block 3
    (Stmt.seq
      (Stmt.region
        [SOper.mk (some 33) none (SOp.mv (Operand.tmp 7)), SOper.mk (some 34) none (SOp.len false (Operand.tmp 33)),
          SOper.mk (some 35) none (SOp.mv (Operand.tmp 1)), SOper.mk (some 36) none (SOp.mv (Operand.tmp 10)),
          SOper.mk (some 37) none (SOp.slc 1 (Operand.tmp 35) (some (Operand.tmp 36)) none none),
          SOper.mk (some 38) none (SOp.call (Operand.func 21) [Operand.tmp 34, Operand.tmp 37]),
          SOper.mk (some 32) none (SOp.mv (Operand.tmp 38)), SOper.mk (some 39) none (SOp.extract 0 (Operand.tmp 32)),
          SOper.mk (some 40) none (SOp.extract 1 (Operand.tmp 32)),
          SOper.mk (some 41) none (SOp.extract 2 (Operand.tmp 32)), SOper.mk (some 11) none (SOp.mv (Operand.tmp 39)),
          SOper.mk (some 12) none (SOp.mv (Operand.tmp 40)), SOper.mk (some 13) none (SOp.mv (Operand.tmp 41))]
        [1, 7, 8, 10, 11, 12, 13])
      (Stmt.seq
        (Stmt.seq
          (Stmt.region
            [SOper.mk (some 42) none (SOp.mv (Operand.tmp 13)),
              SOper.mk (some 43) none (SOp.ibin BinOp.neq (Operand.tmp 42) (Operand.const (Value.int IntKind.i64 0)))]
            [1, 7, 8, 10, 11, 12, 13, 43])
          (Stmt.cond (Operand.tmp 43)
            (Stmt.seq
              (Stmt.region
                [SOper.mk (some 44) none (SOp.mv (Operand.tmp 13)),
                  SOper.mk (some 4) none (SOp.mv (Operand.const (Value.slice none 0 0))),
                  SOper.mk (some 5) none (SOp.mv (Operand.const (Value.int IntKind.i64 0))),
                  SOper.mk (some 6) none (SOp.mv (Operand.tmp 44))]
                [4, 5, 6])
              Stmt.ret)
            Stmt.skip))
        (Stmt.seq
          (Stmt.region
            [SOper.mk (some 45) none (SOp.mv (Operand.tmp 10)), SOper.mk (some 46) none (SOp.mv (Operand.tmp 12)),
              SOper.mk (some 47) none (SOp.ibin BinOp.add (Operand.tmp 45) (Operand.tmp 46)),
              SOper.mk (some 10) none (SOp.mv (Operand.tmp 47))]
            [1, 7, 8, 10, 11])
          (Stmt.seq
            (Stmt.region
              [SOper.mk (some 48) none (SOp.mv (Operand.tmp 8)), SOper.mk (some 49) none (SOp.mv (Operand.tmp 7)),
                SOper.mk (some 50) none (SOp.mv (Operand.tmp 11)),
                SOper.mk (some 51) none (SOp.idx 1 (Operand.tmp 49) (Operand.tmp 50)),
                SOper.mk (some 52) none (SOp.load false 1 (Operand.tmp 51)),
                SOper.mk (some 53) none (SOp.buildS 3 1 [Value.int IntKind.i64 0] [(0, 1, Operand.tmp 52)]),
                SOper.mk (some 54) none
                  (SOp.append 29 3 1 8 (Value.int IntKind.i64 0) (Operand.tmp 48) (Operand.tmp 53)),
                SOper.mk (some 8) none (SOp.mv (Operand.tmp 54))]
              [1, 7, 8, 10, 11])
            (Stmt.drawn
              [(false, SOper.mk (some 55) none (SOp.mv (Operand.tmp 7))),
                (false, SOper.mk (some 56) none (SOp.mv (Operand.tmp 11))),
                (false, SOper.mk (some 57) none (SOp.slc 1 (Operand.tmp 55) none (some (Operand.tmp 56)) none)),
                (false, SOper.mk (some 58) none (SOp.mv (Operand.tmp 7))),
                (false, SOper.mk (some 59) none (SOp.mv (Operand.tmp 11))),
                (false,
                  SOper.mk (some 60) none
                    (SOp.ibin BinOp.add (Operand.tmp 59) (Operand.const (Value.int IntKind.i64 1)))),
                (false, SOper.mk (some 61) none (SOp.slc 1 (Operand.tmp 58) (some (Operand.tmp 60)) none none)),
                (false,
                  SOper.mk (some 62) none
                    (SOp.append 29 3 1 8 (Value.int IntKind.i64 0) (Operand.tmp 57) (Operand.tmp 61))),
                (false, SOper.mk (some 7) none (SOp.mv (Operand.tmp 62)))]
              [1, 7, 8, 10]))))))
def S27_0 : Stmt :=
  Stmt.seq
  (Stmt.region
    [SOper.mk (some 4) none (SOp.mv (Operand.const (Value.slice none 0 0))),
      SOper.mk (some 5) none (SOp.mv (Operand.const (Value.int IntKind.i64 0))),
      SOper.mk (some 6) none (SOp.mv (Operand.const (Value.int IntKind.i64 0)))]
    [0, 1])
  (Stmt.seq
    (Stmt.seq
      (Stmt.region
        [SOper.mk (some 14) none (SOp.mv (Operand.tmp 0)),
          SOper.mk (some 15) none (SOp.ibin BinOp.lss (Operand.tmp 14) (Operand.const (Value.int IntKind.i64 0))),
          SOper.mk (some 16) none (SOp.mv (Operand.tmp 15)),
          SOper.mk (some 17) (some (16, false)) (SOp.mv (Operand.tmp 0)),
          SOper.mk (some 18) (some (16, false))
            (SOp.ibin BinOp.gtr (Operand.tmp 17) (Operand.const (Value.int IntKind.i64 100))),
          SOper.mk (some 19) none (SOp.pick (Operand.tmp 16) (Operand.const (Value.bool true)) (Operand.tmp 18))]
        [0, 1, 19])
      (Stmt.cond (Operand.tmp 19)
        (Stmt.seq
          (Stmt.region
            [SOper.mk (some 4) none (SOp.mv (Operand.const (Value.slice none 0 0))),
              SOper.mk (some 5) none (SOp.mv (Operand.const (Value.int IntKind.i64 0))),
              SOper.mk (some 6) none (SOp.mv (Operand.const (Value.int IntKind.i64 1)))]
            [4, 5, 6])
          Stmt.ret)
        Stmt.skip))
    (Stmt.seq
      (Stmt.region
        [SOper.mk (some 7) none (SOp.mv (Operand.const (Value.slice none 0 0))),
          SOper.mk (some 8) none (SOp.mv (Operand.const (Value.slice none 0 0)))]
        [0, 1, 7, 8])
      (Stmt.seq
        (Stmt.seq
          (Stmt.region
            [SOper.mk (some 20) none (SOp.mv (Operand.tmp 0)),
              SOper.mk (some 21) none (SOp.mv (Operand.const (Value.int IntKind.i64 0)))]
            [1, 7, 8, 20, 21])
          (Stmt.block 0 (Stmt.loop S27_1 [7, 21] [1, 8, 20])))
        (Stmt.seq
          (Stmt.region [SOper.mk (some 10) none (SOp.mv (Operand.const (Value.int IntKind.i64 0)))] [1, 7, 8, 10])
          (Stmt.seq (Stmt.block 2 (Stmt.loop S27_2 [7, 8, 10] [1]))
            (Stmt.seq
              (Stmt.region
                [SOper.mk (some 63) none (SOp.mv (Operand.tmp 8)), SOper.mk (some 64) none (SOp.mv (Operand.tmp 10)),
                  SOper.mk (some 4) none (SOp.mv (Operand.tmp 63)), SOper.mk (some 5) none (SOp.mv (Operand.tmp 64)),
                  SOper.mk (some 6) none (SOp.mv (Operand.const (Value.int IntKind.i64 0)))]
                [4, 5, 6])
              Stmt.ret))))))
def S27 : FnS := ⟨65, [(4, none), (5, none), (6, none)], S27_0⟩
theorem tr27 : trFn Try.prog 27 [] [[0, 1], [0, 1, 19], [4, 5, 6], [0, 1, 7, 8], [1, 7, 8, 20, 21], [7, 21], [1, 8, 20], [1, 7, 8, 20, 21, 22], [1, 7, 8, 9, 20, 21], [1, 7, 8, 20, 21], [1, 7, 8, 20, 21], [1, 7, 8, 10], [7, 8, 10], [1], [1, 7, 8, 10, 31], [1, 7, 8, 10, 11, 12, 13], [1, 7, 8, 10, 11, 12, 13, 43], [4, 5, 6], [1, 7, 8, 10, 11], [1, 7, 8, 10, 11], [1, 7, 8, 10], [0, 1, 2, 3, 4, 5, 6, 7, 8], [], [], [], [0, 1], [], [], [4], [3, 4, 5], [0, 1, 2, 3, 4, 5, 6], [0, 1, 2, 3, 4, 5, 6, 7], [4, 5, 6]] = some S27 := by kernel_rfl
end Go.Proofs.Ytniobbepliknmaa.V
/- Orders by coins: slices.Equal, slices.Delete and draw.Order walked; no condition. -/
namespace Go.Proofs.Ytniobbepliknmaa.V
open Go
set_option linter.unusedVariables false
set_option linter.unusedSimpArgs false
attribute [local go_sem] e_seq e_region e_quiet e_join e_loop e_cond e_block e_exit e_ret e_skip e_fin e_kseq e_snrm e_sret e_sex e_bnrm e_bret e_bex e_rnrm e_rret e_res e_condC e_nil e_g e_mv g_mv e_pick g_pick pickC_eq e_ibin g_ibin ibinC_eq e_sbin g_sbin e_beq g_beq beqC_eq e_nilq g_nilq nilqC_sl nilqC_pt nilqC_mp e_un g_un unC_not unC_neg e_conv g_conv convC_eq e_fld g_fld fldC_ref fldC_ptr e_nilCheck g_nilCheck nilCheckC_ref nilCheckC_ptr nilCheckC_fun e_field g_field fieldC_eq e_len g_len lenC_sl lenC_str e_extract g_extract extractC_eq e_mkFunc e_build g_build e_idiv g_idiv idivC_eq e_ishift g_ishift ishiftC_eq e_idx g_idx e_idxA g_idxA e_load g_load loadC_ref loadC_ptr loadB_eq e_slc g_slc e_box boxC_loc boxC_esc e_alloc allocC_loc allocC_esc e_buildS e_store storeC_ref storeC_ptr storeB_eq e_append e_appz e_mk mkC_eq e_call callC_eq e_fn g_fn fnC_eq fnV_min' fnV_max' fnV_rune' e_q g_q e_a e_n g_call g_box g_alloc g_buildS g_store g_append g_mk g_a g_n g_dead e_dead e_callK e_drawn e_tree e_finJ e_tk e_tfin e_tno e_nbt_q e_nbt_qn e_nbt_a e_nbt_an e_nbt_fin e_early_nil e_early_t e_early_f e_nob_nil e_nob_none e_nob_some isBox_dead isBox_v isBox_ref e_dnil e_dk e_ek e_finB vcOps_vc1 e_dcons e_tq e_ekt e_tearly e_talt e_dearly look_nil look_c proj_nil proj_c looks_nil looks_c zip_nil zip_c val_tmp val_const val_func slv_v slv_box slv_ref slot_tmp slot_const slot_func slotL_v slotL_box slotL_ref put_some put_none updBox_c boxSet_box gd_eq slotVals_nil slotVals_c slotVals_b boxV_box boxOn_box slotsOn_nil slotsOn_c slotsOn_b resV_one resV_two vals_nil vals_c allOn_nil allOn_c partOn_nil partOn_c partVals_nil partVals_c fits_nil fits_c fillL_nil fillL_c mkv_one mkv_agg cellsV_agg cellsV_int cellsV_bool cellsV_slice cellsV_string cellsV_pointer cellsV_func cellsV_nilf cellsV_map one'_nil one'_c oc_int oc_bool oc_slice oc_string oc_pointer oc_func oc_nilf oc_map setC_eq iv_add iv_sub iv_mul iv_eql iv_neq iv_lss iv_leq iv_gtr iv_geq iok_add iok_sub iok_mul iok_eql iok_neq iok_lss iok_leq iok_gtr iok_geq pickV_bool args0_nil args0_c bnd_none bnd_some imp_bt imp_bf imp_ebt imp_ebf imp_eb1 imp_np imp_pp beq_tt beq_tf beq_ft beq_ff cond_or cond_and e_round e_meet Int.le_refl Int.toNat_zero decide_true decide_false Bool.or_false Bool.false_or Bool.true_or Bool.or_true Bool.and_false Bool.false_and Bool.bne_false Bool.bne_true beq_iff_eq Int.cast_ofNat_Int not_false_eq_true not_true_eq_false false_and and_false false_implies true_implies true_and and_true Bool.true_and Bool.and_true Bool.not_true Bool.not_false forall_const implies_true List.take_zero List.drop_zero List.take_succ_cons List.drop_succ_cons List.take_nil List.drop_nil List.length_cons List.length_nil List.nil_append List.append_nil List.cons_append Int.toNat_natCast decide_eq_true_eq decide_eq_false_iff_not cond_true cond_false and_self List.getElem?_cons_zero List.getElem?_cons_succ List.set_cons_zero List.set_cons_succ Option.some.injEq exists_eq_left' Nat.zero_add Nat.add_zero Nat.mul_one imp_self true_or or_true or_false false_or Bool.or_eq_true Bool.or_eq_false_iff Bool.and_eq_true Bool.and_eq_false_iff Bool.not_eq_true' Bool.not_eq_false'

theorem take_eq_succ {α : Type} {xs ys : List α} {k : Nat} (hk : k < xs.length) (hk' : k < ys.length) (h : xs.take k = ys.take k) (e : xs[k] = ys[k]) : xs.take (k + 1) = ys.take (k + 1) := by
  rw [List.take_succ_eq_append_getElem hk, List.take_succ_eq_append_getElem hk', h, e]

theorem slices_equal {Γr : Ctx} {A B : Option Addr} {c d : Nat} {xs ys : List Int} (hx : SlOk (lk Γr) A c xs) (hy : SlOk (lk Γr) B d ys) :
    Ret Try.prog 28 [.slice A xs.length c, .slice B ys.length d] Γr [] (fun v Γ => Γ = [] ∧ v = .bool (decide (xs = ys))) := by
  generalize hR : (fun v Γ => Γ = [] ∧ v = _) = R
  refine ret_of_vc tr28 (Nat.le_of_ble_eq_true rfl) ?_
  have h1 := hx.short
  have h2 := hy.short
  simp only [S28, S28_0, go_sem, Nat.reduceBEq, Nat.reduceAdd, Nat.reduceSub, Nat.reduceMul, Nat.reduceLeDiff, reduceCtorEq, ↓reduceIte, Int.reduceLT, Int.reduceLE, Int.reduceEq, Int.reduceNe]
  refine ⟨fun hne => Up.here ?_, fun heq => ?_⟩
  · subst hR
    refine ⟨rfl, ?_⟩
    have : xs ≠ ys := fun e => by subst e; exact hne rfl
    simp [this]
  have hl : xs.length = ys.length := by omega
  refine s_loop (fun f vs Γ => Γ = [] ∧ ∃ k : Nat, vs = [.v true (.int .i64 k)] ∧ k + f = xs.length ∧ xs.take k = ys.take k) xs.length (Up.here ⟨rfl, 0, rfl, by omega, by simp⟩) ?_
  rintro f vs Γ ⟨rfl, k, rfl, hkf, htk⟩
  simp only [S28_1, go_sem, Nat.reduceBEq, Nat.reduceAdd, Nat.reduceSub, Nat.reduceMul, Nat.reduceLeDiff, reduceCtorEq, ↓reduceIte, Int.reduceLT, Int.reduceLE, Int.reduceEq, Int.reduceNe]
  refine ⟨fun hlt => ?_, fun hge => ?_⟩
  · have hk : k < xs.length := by omega
    have hk' : k < ys.length := by omega
    obtain ⟨b, o, hA, hc1⟩ := hx.int hk
    obtain ⟨b', o', hB, hc2⟩ := hy.int hk'
    refine s_idx hA (by omega) (by omega) ?_
    simp only [go_sem, Nat.reduceBEq, Nat.reduceAdd, Nat.reduceSub, Nat.reduceMul, Nat.reduceLeDiff, reduceCtorEq, ↓reduceIte, Int.reduceLT, Int.reduceLE, Int.reduceEq, Int.reduceNe]
    refine s_ld0 (hc1 _ (Mem.le.refl _)) (by simp) (by simp) ?_
    simp only [go_sem, Nat.reduceBEq, Nat.reduceAdd, Nat.reduceSub, Nat.reduceMul, Nat.reduceLeDiff, reduceCtorEq, ↓reduceIte, Int.reduceLT, Int.reduceLE, Int.reduceEq, Int.reduceNe]
    refine s_idx hB (by omega) (by omega) ?_
    simp only [go_sem, Nat.reduceBEq, Nat.reduceAdd, Nat.reduceSub, Nat.reduceMul, Nat.reduceLeDiff, reduceCtorEq, ↓reduceIte, Int.reduceLT, Int.reduceLE, Int.reduceEq, Int.reduceNe]
    refine s_ld0 (hc2 _ (Mem.le.refl _)) (by simp) (by simp) ?_
    simp only [go_sem, Nat.reduceBEq, Nat.reduceAdd, Nat.reduceSub, Nat.reduceMul, Nat.reduceLeDiff, reduceCtorEq, ↓reduceIte, Int.reduceLT, Int.reduceLE, Int.reduceEq, Int.reduceNe]
    refine ⟨fun hne => Up.here ?_, fun heq => ?_⟩
    · subst hR
      refine ⟨rfl, ?_⟩
      have : xs ≠ ys := fun e => by subst e; exact hne rfl
      simp [this]
    · simp (disch := omega) only [wrap_id]
      exact ⟨f - 1, by omega, Up.here ⟨rfl, k + 1, rfl, by omega, take_eq_succ hk hk' htk heq⟩⟩
  · have hk : k = xs.length := by omega
    refine Up.here ?_
    subst hR
    refine ⟨rfl, ?_⟩
    have : xs = ys := by
      rw [hk, List.take_length, hl, List.take_length] at htk
      exact htk
    simp [this]

theorem eraseIdx_eq {α : Type} (xs : List α) (i : Nat) : xs.eraseIdx i = xs.take i ++ xs.drop (i + 1) := List.eraseIdx_eq_take_drop_succ xs i

theorem slices_delete {Γr : Ctx} {g : PH} {A : Option Addr} {c : Nat} {xs : List Int} (hx : Bld g (lk []) 3 (.slice A xs.length c) xs) (hs : xs.length ≤ 1000) (i : Nat) (hi : i < xs.length) :
    Ret Try.prog 29 [.slice A xs.length c, .int .i64 i, .int .i64 ((i : Int) + 1)] Γr [g] (fun v Γ => ∃ g', Γ = [g'] ∧ Bld g' (lk []) 3 v (xs.eraseIdx i)) := by
  generalize hR : (fun (v : Value) (Γ : Ctx) => ∃ g', _) = R
  refine ret_of_vc tr29 (Nat.le_of_ble_eq_true rfl) ?_
  have hcap : xs.length ≤ c := by
    obtain ⟨cs, h, _⟩ := hx
    obtain ⟨A', c', e, hl⟩ := h.len
    simp only [Value.slice.injEq] at e
    omega
  have hel : (xs.eraseIdx i).length = xs.length - 1 := by rw [List.length_eraseIdx, if_pos hi]
  simp only [S29, S29_0, go_sem, Nat.reduceBEq, Nat.reduceAdd, Nat.reduceSub, Nat.reduceMul, Nat.reduceLeDiff, reduceCtorEq, ↓reduceIte, Int.reduceLT, Int.reduceLE, Int.reduceEq, Int.reduceNe]
  refine s_q trivial (qr_slc3 (e := 3) (sz := 1) (l := i) (h := i + 1) (m := xs.length) (by kernel_rfl) (by kernel_rfl) (by omega) (by omega) hcap) ?_
  simp only [go_sem, Nat.reduceBEq, Nat.reduceAdd, Nat.reduceSub, Nat.reduceMul, Nat.reduceLeDiff, reduceCtorEq, ↓reduceIte, Int.reduceLT, Int.reduceLE, Int.reduceEq, Int.reduceNe]
  refine ⟨fun h => by omega, fun _ => ?_⟩
  refine s_hi i (by simp only [go_sem, Nat.reduceBEq, Nat.reduceAdd, Nat.reduceSub, Nat.reduceMul, Nat.reduceLeDiff, reduceCtorEq, ↓reduceIte, Int.reduceLT, Int.reduceLE, Int.reduceEq, Int.reduceNe]; exact ⟨_, rfl⟩) (by omega) ?_
  simp only [go_sem, Nat.reduceBEq, Nat.reduceAdd, Nat.reduceSub, Nat.reduceMul, Nat.reduceLeDiff, reduceCtorEq, ↓reduceIte, Int.reduceLT, Int.reduceLE, Int.reduceEq, Int.reduceNe]
  refine s_lo (i + 1) (by simp only [go_sem, Nat.reduceBEq, Nat.reduceAdd, Nat.reduceSub, Nat.reduceMul, Nat.reduceLeDiff, reduceCtorEq, ↓reduceIte, Int.reduceLT, Int.reduceLE, Int.reduceEq, Int.reduceNe]; exact ⟨_, rfl⟩) (by omega) hcap ?_
  intro A2 hA2
  simp only [go_sem, Nat.reduceBEq, Nat.reduceAdd, Nat.reduceSub, Nat.reduceMul, Nat.reduceLeDiff, reduceCtorEq, ↓reduceIte, Int.reduceLT, Int.reduceLE, Int.reduceEq, Int.reduceNe]
  have hsl : ∃ A' c', (Value.slice A xs.length c) = .slice A' xs.length c' ∧ SlOk (lk [g]) A' c' xs := hx.slok (Mem.le.refl _) (lk_sub (by simp)) (by omega)
  obtain ⟨A', c', e, hsl⟩ := hsl
  simp only [Value.slice.injEq, true_and] at e
  obtain ⟨rfl, rfl⟩ := e
  have hd := hsl.drop (l := i + 1) (by omega)
  rw [show (if c = i + 1 then A else A.map (·.add ((i + 1) * Rep.sz Int))) = A2 from hA2.symm] at hd
  refine s_appS (ix := 0) rfl (hx.take (k := i) (by omega)) hd (by simp) (lk_l _ _) rfl (by simp; omega) (by simp [maxLen]; omega) ?_
  intro v g' hB hkp
  rw [← eraseIdx_eq] at hB
  obtain ⟨A3, c3, rfl⟩ := hB.val
  have hc3 : xs.length ≤ c3 := by
    have := ((hkp.2 _ _ _ _ _ _ rfl rfl).1 (by rw [hel]; omega)).2
    omega
  rw [hel] at hB ⊢
  simp only [go_sem, Nat.reduceBEq, Nat.reduceAdd, Nat.reduceSub, Nat.reduceMul, Nat.reduceLeDiff, reduceCtorEq, ↓reduceIte, Int.reduceLT, Int.reduceLE, Int.reduceEq, Int.reduceNe]
  refine s_lohi (xs.length - 1) xs.length (by simp only [go_sem, Nat.reduceBEq, Nat.reduceAdd, Nat.reduceSub, Nat.reduceMul, Nat.reduceLeDiff, reduceCtorEq, ↓reduceIte, Int.reduceLT, Int.reduceLE, Int.reduceEq, Int.reduceNe]; exact ⟨_, rfl⟩) (by simp only [go_sem, Nat.reduceBEq, Nat.reduceAdd, Nat.reduceSub, Nat.reduceMul, Nat.reduceLeDiff, reduceCtorEq, ↓reduceIte, Int.reduceLT, Int.reduceLE, Int.reduceEq, Int.reduceNe]; exact ⟨_, rfl⟩) (by omega) hc3 ?_
  rintro A4 hA4
  simp only [go_sem, Nat.reduceBEq, Nat.reduceAdd, Nat.reduceSub, Nat.reduceMul, Nat.reduceLeDiff, reduceCtorEq, ↓reduceIte, Int.reduceLT, Int.reduceLE, Int.reduceEq, Int.reduceNe]
  rw [hA4]
  refine s_clear (α := Int) (ix := 0) (z := .int .i64 0) (n := xs.length - 1) (e := 3) (by kernel_rfl) (by kernel_rfl) rfl (by simp [Value.cells, one', Value.oneCell']) rfl hB (by omega) rfl ?_
  intro g2 hB2
  simp only [go_sem, Nat.reduceBEq, Nat.reduceAdd, Nat.reduceSub, Nat.reduceMul, Nat.reduceLeDiff, reduceCtorEq, ↓reduceIte, Int.reduceLT, Int.reduceLE, Int.reduceEq, Int.reduceNe]
  refine Up.here ?_
  subst hR
  exact ⟨g2, rfl, hB2⟩

/-! the order that coins draw -/
def ordF (coins : List Bool) : Nat → List Int → List Int → Nat → Option (List Int × Nat)
  | 0, _, out, used => some (out, used)
  | f + 1, left, out, used => match coinsF left.length (coins.drop used) with
    | none => none
    | some (i, u) => ordF coins f (left.eraseIdx i) (out ++ [left.getD i 0]) (used + u)
def orderR (n : Int) (coins : List Bool) : List Int × Int × Int :=
  if n < 0 ∨ 100 < n then ([], 0, 1) else match ordF coins n.toNat (numsI n.toNat) [] 0 with
    | none => ([], 0, 5)
    | some (o, k) => (o, k, 0)
theorem coinsG_lt' {n b : Nat} {coins : List Bool} : ∀ {f u : Nat} {x v : Nat}, coinsG n b coins f u = some (x, v) → x < n ∧ v ≤ coins.length
  | 0, u, x, v, h => by simp [coinsG] at h
  | f + 1, u, x, v, h => by
    simp only [coinsG] at h
    split at h
    · split at h
      · simp at h; omega
      · exact coinsG_lt' h
    · cases h
theorem coinsF_lt' {n : Nat} {coins : List Bool} {x v : Nat} (h : coinsF n coins = some (x, v)) : x < n ∧ v ≤ coins.length := coinsG_lt' h

theorem draw_order {Γr : Ctx} (n : Int) {A : Option Addr} {c : Nat} {coins : List Bool} (hc : SlOk (lk Γr) A c coins) :
    Ret Try.prog 27 [.int .i64 n, .slice A coins.length c] Γr [] (fun v Γ => ∃ g B cb, Γ = [g] ∧ SlOk (lk [g]) B cb (orderR n coins).1 ∧
      v = .tuple #[.slice B (orderR n coins).1.length cb, .int .i64 (orderR n coins).2.1, .int .i64 (orderR n coins).2.2]) := by
  generalize hR : (fun (v : Value) (Γ : Ctx) => ∃ g B cb, _) = R
  refine ret_of_vc tr27 (Nat.le_of_ble_eq_true rfl) ?_
  have hcl := hc.short
  simp only [S27, S27_0, go_sem, Nat.reduceBEq, Nat.reduceAdd, Nat.reduceSub, Nat.reduceMul, Nat.reduceLeDiff, reduceCtorEq, ↓reduceIte, Int.reduceLT, Int.reduceLE, Int.reduceEq, Int.reduceNe]
  refine ⟨fun h => Up.one fun g _ => ?_, fun hn => ?_⟩
  · subst hR
    have : orderR n coins = ([], 0, 1) := by unfold orderR; rw [if_pos h]
    rw [this]
    exact ⟨g, none, 0, rfl, SlOk.nil, rfl⟩
  obtain ⟨m, rfl⟩ : ∃ m : Nat, n = m := ⟨n.toNat, by omega⟩
  have hm : m ≤ 100 := by omega
  have hres : orderR m coins = match ordF coins m (numsI m) [] 0 with
    | none => ([], 0, 5)
    | some (o, k) => (o, k, 0) := by
    unfold orderR
    rw [if_neg (by omega), Int.toNat_natCast]
  -- the numbers
  refine s_loop (fun f vs Γ => ∃ g g2 : PH, Γ = [g, g2] ∧ ∃ (k : Nat) (u : Value), vs = [.v true u, .v true (.int .i64 k)] ∧ k + f = m ∧ Bld g (lk []) 3 u (numsI k)) m
    (Up.sel [[], []] (by decide) fun _ _ => ⟨_, _, rfl, 0, _, rfl, by omega, Bld.nil _ _ _⟩) ?_
  rintro f vs Γ ⟨g, g2, rfl, k, u, rfl, hkf, hB⟩
  have hkl := numsI_len k
  simp only [S27_1, go_sem, Nat.reduceBEq, Nat.reduceAdd, Nat.reduceSub, Nat.reduceMul, Nat.reduceLeDiff, reduceCtorEq, ↓reduceIte, Int.reduceLT, Int.reduceLE, Int.reduceEq, Int.reduceNe]
  refine ⟨fun hlt => ?_, fun hge => ?_⟩
  · intro b
    refine s_app1S (ix := 1) (k : Int) rfl hB cells_one rfl (by omega) (by simp [maxLen]; omega) ?_
    intro v' g' hB' _
    simp only [go_sem, Nat.reduceBEq, Nat.reduceAdd, Nat.reduceSub, Nat.reduceMul, Nat.reduceLeDiff, reduceCtorEq, ↓reduceIte, Int.reduceLT, Int.reduceLE, Int.reduceEq, Int.reduceNe]
    simp (disch := omega) only [wrap_id]
    rw [← numsI_succ] at hB'
    exact ⟨f - 1, by omega, Up.sel [[1], [2]] (by decide) fun _ _ => ⟨_, _, rfl, k + 1, v', rfl, by omega, hB'⟩⟩
  · have hk : k = m := by omega
    subst hk
    refine s_loop (fun f vs Γ => ∃ g g2 : PH, Γ = [g, g2] ∧ ∃ (left out : List Int) (used : Nat) (u1 u2 : Value), vs = [.v true u1, .v true u2, .v true (.int .i64 used)] ∧ f = left.length ∧ Bld g (lk []) 3 u1 left ∧ Bld g2 (lk []) 3 u2 out ∧
      left.length + out.length = k ∧ used ≤ coins.length ∧ ordF coins left.length left out used = ordF coins k (numsI k) [] 0) k
      (Up.here ⟨g, g2, rfl, numsI k, [], 0, _, _, rfl, hkl.symm, hB, Bld.nil _ _ _, by simp [hkl], by omega, by rw [hkl]⟩) ?_
    rintro f vs Γ ⟨g, g2, rfl, left, out, used, u1, u2, rfl, hf, hB1, hB2, hlen, hused, hord⟩
    obtain ⟨A1, c1, rfl⟩ := hB1.val
    simp only [S27_2, go_sem, Nat.reduceBEq, Nat.reduceAdd, Nat.reduceSub, Nat.reduceMul, Nat.reduceLeDiff, reduceCtorEq, ↓reduceIte, Int.reduceLT, Int.reduceLE, Int.reduceEq, Int.reduceNe]
    refine ⟨fun hlt => ?_, fun hge => ?_⟩
    · refine s_lo used (by simp only [go_sem, Nat.reduceBEq, Nat.reduceAdd, Nat.reduceSub, Nat.reduceMul, Nat.reduceLeDiff, reduceCtorEq, ↓reduceIte, Int.reduceLT, Int.reduceLE, Int.reduceEq, Int.reduceNe]; exact ⟨_, rfl⟩) hused hc.cap ?_
      intro A2 hA2
      simp only [go_sem, Nat.reduceBEq, Nat.reduceAdd, Nat.reduceSub, Nat.reduceMul, Nat.reduceLeDiff, reduceCtorEq, ↓reduceIte, Int.reduceLT, Int.reduceLE, Int.reduceEq, Int.reduceNe]
      have hd := (hc.drop (l := used) hused).r (Γ := [g, g2])
      rw [show (if c = used then A else A.map (·.add (used * Rep.sz Bool))) = A2 from hA2.symm] at hd
      have hdl : (coins.drop used).length = coins.length - used := by simp
      rw [← hdl]
      refine CallVC.read (draw_number _ _ _ _ hd) ?_
      rintro v Γ' ⟨rfl, rfl⟩
      rw [if_neg (by omega), Int.toNat_natCast]
      obtain ⟨l, hl⟩ : ∃ l, left.length = l + 1 := ⟨left.length - 1, by omega⟩
      rw [hl] at hord
      simp only [ordF, hl] at hord
      rw [hl]
      cases hcf : coinsF (l + 1) (coins.drop used) with
      | none =>
        rw [hcf] at hord
        simp only at hord
        rw [← hord] at hres
        simp only [go_sem, Nat.reduceBEq, Nat.reduceAdd, Nat.reduceSub, Nat.reduceMul, Nat.reduceLeDiff, reduceCtorEq, ↓reduceIte, Int.reduceLT, Int.reduceLE, Int.reduceEq, Int.reduceNe]
        refine Up.one fun g3 _ => ?_
        subst hR
        rw [hres]
        exact ⟨g3, none, 0, rfl, SlOk.nil, rfl⟩
      | some p =>
        obtain ⟨i, w⟩ := p
        rw [hcf] at hord
        simp only at hord
        obtain ⟨hi, hw⟩ := coinsF_lt' hcf
        simp only [List.length_drop] at hw
        simp only [go_sem, Nat.reduceBEq, Nat.reduceAdd, Nat.reduceSub, Nat.reduceMul, Nat.reduceLeDiff, reduceCtorEq, ↓reduceIte, Int.reduceLT, Int.reduceLE, Int.reduceEq, Int.reduceNe]
        have hcap : left.length ≤ c1 := by
          obtain ⟨cs, h, _⟩ := hB1
          obtain ⟨A', c', e, hl⟩ := h.len
          simp only [Value.slice.injEq] at e
          omega
        have hsl : ∃ A' c', (Value.slice A1 left.length c1) = .slice A' left.length c' ∧ SlOk (lk [g]) A' c' left := hB1.slok (Mem.le.refl _) (lk_sub (by simp)) (by omega)
        obtain ⟨A', c', e, hsl⟩ := hsl
        simp only [Value.slice.injEq, true_and] at e
        obtain ⟨rfl, rfl⟩ := e
        have hil : i < left.length := by omega
        obtain ⟨b, o, hA1, hcells⟩ := hsl.int hil
        refine s_idx hA1 (by omega) (by omega) ?_
        simp only [go_sem, Nat.reduceBEq, Nat.reduceAdd, Nat.reduceSub, Nat.reduceMul, Nat.reduceLeDiff, reduceCtorEq, ↓reduceIte, Int.reduceLT, Int.reduceLE, Int.reduceEq, Int.reduceNe]
        refine s_ld0 (hcells _ (lk_sub (by simp))) (by simp) (by simp) ?_
        simp only [go_sem, Nat.reduceBEq, Nat.reduceAdd, Nat.reduceSub, Nat.reduceMul, Nat.reduceLeDiff, reduceCtorEq, ↓reduceIte, Int.reduceLT, Int.reduceLE, Int.reduceEq, Int.reduceNe]
        intro b'
        refine s_app1S (ix := 2) left[i] rfl hB2 cells_one rfl (by omega) (by simp [maxLen]; omega) ?_
        intro v2 g2' hB2' _
        simp only [go_sem, Nat.reduceBEq, Nat.reduceAdd, Nat.reduceSub, Nat.reduceMul, Nat.reduceLeDiff, reduceCtorEq, ↓reduceIte, Int.reduceLT, Int.reduceLE, Int.reduceEq, Int.reduceNe]
        refine s_hi i (by simp only [go_sem, Nat.reduceBEq, Nat.reduceAdd, Nat.reduceSub, Nat.reduceMul, Nat.reduceLeDiff, reduceCtorEq, ↓reduceIte, Int.reduceLT, Int.reduceLE, Int.reduceEq, Int.reduceNe]; exact ⟨_, rfl⟩) (by omega) ?_
        simp only [go_sem, Nat.reduceBEq, Nat.reduceAdd, Nat.reduceSub, Nat.reduceMul, Nat.reduceLeDiff, reduceCtorEq, ↓reduceIte, Int.reduceLT, Int.reduceLE, Int.reduceEq, Int.reduceNe]
        simp (disch := omega) only [wrap_id]
        refine s_lo (i + 1) (by simp only [go_sem, Nat.reduceBEq, Nat.reduceAdd, Nat.reduceSub, Nat.reduceMul, Nat.reduceLeDiff, reduceCtorEq, ↓reduceIte, Int.reduceLT, Int.reduceLE, Int.reduceEq, Int.reduceNe]; exact ⟨_, rfl⟩) (by omega) (by omega) ?_
        intro A3 hA3
        simp only [go_sem, Nat.reduceBEq, Nat.reduceAdd, Nat.reduceSub, Nat.reduceMul, Nat.reduceLeDiff, reduceCtorEq, ↓reduceIte, Int.reduceLT, Int.reduceLE, Int.reduceEq, Int.reduceNe]
        have hd := hsl.drop (l := i + 1) (by omega)
        rw [show (if c1 = i + 1 then A1 else A1.map (·.add ((i + 1) * Rep.sz Int))) = A3 from hA3.symm] at hd
        have hel : (left.eraseIdx i).length = l := by rw [List.length_eraseIdx, if_pos hil]; omega
        refine s_appS (ix := 1) rfl (hB1.take (k := i) (by omega)) hd (by simp [hl]) (lk_sub (by simp)) rfl (by simp; omega) (by simp [maxLen]; omega) ?_
        intro v g' hB' hkp
        rw [← eraseIdx_eq] at hB'
        simp only [go_sem, Nat.reduceBEq, Nat.reduceAdd, Nat.reduceSub, Nat.reduceMul, Nat.reduceLeDiff, reduceCtorEq, ↓reduceIte, Int.reduceLT, Int.reduceLE, Int.reduceEq, Int.reduceNe]
        have hg : left.getD i 0 = left[i] := by rw [List.getD_eq_getElem?_getD, List.getElem?_eq_getElem hil]; rfl
        rw [hg] at hord
        exact ⟨l, by omega, Up.sel [[1], [2]] (by decide) fun _ _ => ⟨_, _, rfl, left.eraseIdx i, out ++ [left[i]], used + w, _, _, rfl, hel.symm, hB', hB2', by simp [hel]; omega, by omega, by rw [hel]; exact hord⟩⟩
    · have hl0 : left = [] := List.eq_nil_of_length_eq_zero (by omega)
      subst hl0
      simp only [List.length_nil, ordF] at hord
      rw [← hord] at hres
      have hol : out.length ≤ 100 := by simp at hlen; omega
      refine Up.one fun g3 hg3 => ?_
      obtain ⟨B, cb, rfl, hs⟩ := hB2.slok (L' := lk [g3]) ((lk_m (by simp)).trans hg3) (fun _ _ h => by obtain ⟨_, h, _⟩ := h; cases h) (by omega)
      subst hR
      rw [hres]
      exact ⟨g3, B, cb, rfl, hs, rfl⟩
end Go.Proofs.Ytniobbepliknmaa.V
/- The text of slices.Clone[[]int,int] as a statement (slots: 0 s, 1 s); no condition. -/
namespace Go.Proofs.Ytniobbepliknmaa.V
open Go
def S111_0 : Stmt :=
  Stmt.seq (Stmt.region [SOper.mk (some 2) none (SOp.mv (Operand.const (Value.slice none 0 0)))] [0])
  (Stmt.seq
    (Stmt.seq
      (Stmt.region
        [SOper.mk (some 3) none (SOp.mv (Operand.tmp 0)),
          SOper.mk (some 4) none (SOp.nilq 0 false (Operand.tmp 3) (Operand.const (Value.slice none 0 0)))]
        [0, 4])
      (Stmt.cond (Operand.tmp 4)
        (Stmt.seq (Stmt.region [SOper.mk (some 2) none (SOp.mv (Operand.const (Value.slice none 0 0)))] [2]) Stmt.ret)
        Stmt.skip))
    (Stmt.seq
      (Stmt.region
        [SOper.mk (some 5) none (SOp.buildS 3 0 [] []), SOper.mk (some 6) none (SOp.mv (Operand.tmp 0)),
          SOper.mk (some 7) none (SOp.append 29 3 1 8 (Value.int IntKind.i64 0) (Operand.tmp 5) (Operand.tmp 6)),
          SOper.mk (some 2) none (SOp.mv (Operand.tmp 7))]
        [2])
      Stmt.ret))
def S111 : FnS := ⟨8, [(2, none)], S111_0⟩
theorem tr111 : trFn Try.prog 111 [] [[0], [0, 4], [2], [2]] = some S111 := by kernel_rfl
end Go.Proofs.Ytniobbepliknmaa.V
/- The text of slices.Concat[[]int,int] as a statement (slots: 0 slices, 1 slices, 3 size, 4 _, 5 s, 6 newslice, 7 _, 8 s); no condition. -/
namespace Go.Proofs.Ytniobbepliknmaa.V
open Go
def S110_1 : Stmt :=
  Stmt.block 1
  (Stmt.seq
    (Stmt.region
      [SOper.mk (some 13) none (SOp.idx 1 (Operand.tmp 9) (Operand.tmp 11)),
        SOper.mk (some 14) none (SOp.load false 1 (Operand.tmp 13)), SOper.mk (some 5) none (SOp.mv (Operand.tmp 14))]
      [0, 3, 5, 9, 10, 11])
    (Stmt.seq
      (Stmt.region
        [SOper.mk (some 15) none (SOp.mv (Operand.tmp 3)), SOper.mk (some 16) none (SOp.mv (Operand.tmp 5)),
          SOper.mk (some 17) none (SOp.len false (Operand.tmp 16)),
          SOper.mk (some 18) none (SOp.ibin BinOp.add (Operand.tmp 15) (Operand.tmp 17)),
          SOper.mk (some 3) none (SOp.mv (Operand.tmp 18))]
        [0, 3, 9, 10, 11])
      (Stmt.seq
        (Stmt.region
          [SOper.mk (some 19) none (SOp.mv (Operand.tmp 3)),
            SOper.mk (some 20) none (SOp.ibin BinOp.lss (Operand.tmp 19) (Operand.const (Value.int IntKind.i64 0)))]
          [0, 3, 9, 10, 11, 20])
        (Stmt.cond (Operand.tmp 20)
          (Stmt.region [SOper.mk (some 21) none SOp.dead, SOper.mk none none SOp.dead] [0, 3, 9, 10, 11]) Stmt.skip))))
def S110_2 : Stmt :=
  Stmt.region
  [SOper.mk (some 22) none (SOp.ibin BinOp.add (Operand.tmp 11) (Operand.const (Value.int IntKind.i64 1))),
    SOper.mk (some 11) none (SOp.mv (Operand.tmp 22))]
  [0, 3, 9, 10, 11]
def S110_3 : Stmt :=
  Stmt.seq
  (Stmt.region [SOper.mk (some 12) none (SOp.ibin BinOp.lss (Operand.tmp 11) (Operand.tmp 10))] [0, 3, 9, 10, 11, 12])
  (Stmt.seq (Stmt.cond (Operand.tmp 12) Stmt.skip (Stmt.exit 0)) (Stmt.join S110_1 S110_2 [3] [0, 9, 10, 11]))
def S110_4 : Stmt :=
  Stmt.seq
  (Stmt.region [SOper.mk (some 28) none (SOp.ibin BinOp.lss (Operand.tmp 27) (Operand.tmp 26))] [6, 25, 26, 27, 28])
  (Stmt.seq (Stmt.cond (Operand.tmp 28) Stmt.skip (Stmt.exit 2))
    (Stmt.seq
      (Stmt.block 3
        (Stmt.seq
          (Stmt.region
            [SOper.mk (some 29) none (SOp.idx 1 (Operand.tmp 25) (Operand.tmp 27)),
              SOper.mk (some 30) none (SOp.load false 1 (Operand.tmp 29)),
              SOper.mk (some 8) none (SOp.mv (Operand.tmp 30))]
            [6, 8, 25, 26, 27])
          (Stmt.region
            [SOper.mk (some 31) none (SOp.mv (Operand.tmp 6)), SOper.mk (some 32) none (SOp.mv (Operand.tmp 8)),
              SOper.mk (some 33) none (SOp.append 29 3 1 8 (Value.int IntKind.i64 0) (Operand.tmp 31) (Operand.tmp 32)),
              SOper.mk (some 6) none (SOp.mv (Operand.tmp 33))]
            [6, 25, 26, 27])))
      (Stmt.region
        [SOper.mk (some 34) none (SOp.ibin BinOp.add (Operand.tmp 27) (Operand.const (Value.int IntKind.i64 1))),
          SOper.mk (some 27) none (SOp.mv (Operand.tmp 34))]
        [6, 25, 26, 27])))
def S110_0 : Stmt :=
  Stmt.seq (Stmt.region [SOper.mk (some 2) none (SOp.mv (Operand.const (Value.slice none 0 0)))] [0])
  (Stmt.seq (Stmt.region [SOper.mk (some 3) none (SOp.mv (Operand.const (Value.int IntKind.i64 0)))] [0, 3])
    (Stmt.seq
      (Stmt.seq
        (Stmt.region
          [SOper.mk (some 9) none (SOp.mv (Operand.tmp 0)), SOper.mk (some 10) none (SOp.len false (Operand.tmp 9)),
            SOper.mk (some 11) none (SOp.mv (Operand.const (Value.int IntKind.i64 0)))]
          [0, 3, 9, 10, 11])
        (Stmt.block 0 (Stmt.loop S110_3 [3, 11] [0, 9, 10])))
      (Stmt.seq
        (Stmt.region
          [SOper.mk (some 23) none (SOp.mv (Operand.tmp 3)),
            SOper.mk (some 24) none
              (SOp.call (Operand.func 171) [Operand.const (Value.slice none 0 0), Operand.tmp 23]),
            SOper.mk (some 6) none (SOp.mv (Operand.tmp 24))]
          [0, 6])
        (Stmt.seq
          (Stmt.seq
            (Stmt.region
              [SOper.mk (some 25) none (SOp.mv (Operand.tmp 0)),
                SOper.mk (some 26) none (SOp.len false (Operand.tmp 25)),
                SOper.mk (some 27) none (SOp.mv (Operand.const (Value.int IntKind.i64 0)))]
              [6, 25, 26, 27])
            (Stmt.block 2 (Stmt.loop S110_4 [6, 27] [25, 26])))
          (Stmt.seq
            (Stmt.region
              [SOper.mk (some 35) none (SOp.mv (Operand.tmp 6)), SOper.mk (some 2) none (SOp.mv (Operand.tmp 35))] [2])
            Stmt.ret)))))
def S110 : FnS := ⟨36, [(2, none)], S110_0⟩
theorem tr110 : trFn Try.prog 110 [] [[0], [0, 3], [0, 3, 9, 10, 11], [3, 11], [0, 9, 10], [0, 3, 9, 10, 11, 12], [3], [0, 9, 10, 11], [0, 3, 5, 9, 10, 11], [0, 3, 9, 10, 11], [0, 3, 9, 10, 11, 20], [0, 3, 9, 10, 11], [0, 3, 9, 10, 11], [0, 6], [6, 25, 26, 27], [6, 27], [25, 26], [6, 25, 26, 27, 28], [6, 8, 25, 26, 27], [6, 25, 26, 27], [6, 25, 26, 27], [2]] = some S110 := by kernel_rfl
end Go.Proofs.Ytniobbepliknmaa.V
/- The text of slices.Grow[[]int,int] as a statement (slots: 0 s, 1 n, 2 s, 3 n); no condition. -/
namespace Go.Proofs.Ytniobbepliknmaa.V
open Go
def S171_1 : Stmt :=
  Stmt.seq
  (Stmt.region
    [SOper.mk (some 5) none (SOp.mv (Operand.tmp 1)),
      SOper.mk (some 6) none (SOp.ibin BinOp.lss (Operand.tmp 5) (Operand.const (Value.int IntKind.i64 0)))]
    [0, 1, 6])
  (Stmt.cond (Operand.tmp 6) (Stmt.region [SOper.mk (some 7) none SOp.dead, SOper.mk none none SOp.dead] [0, 1])
    Stmt.skip)
def S171_2 : Stmt :=
  Stmt.seq
  (Stmt.region
    [SOper.mk (some 8) none (SOp.mv (Operand.tmp 1)), SOper.mk (some 9) none (SOp.mv (Operand.tmp 0)),
      SOper.mk (some 10) none (SOp.q (Qk.bi 0 [29]) [Operand.tmp 9]), SOper.mk (some 11) none (SOp.mv (Operand.tmp 0)),
      SOper.mk (some 12) none (SOp.len false (Operand.tmp 11)),
      SOper.mk (some 13) none (SOp.ibin BinOp.sub (Operand.tmp 10) (Operand.tmp 12)),
      SOper.mk (some 14) none (SOp.ibin BinOp.sub (Operand.tmp 8) (Operand.tmp 13)),
      SOper.mk (some 1) none (SOp.mv (Operand.tmp 14))]
    [0, 1])
  (Stmt.seq
    (Stmt.region
      [SOper.mk (some 15) none (SOp.mv (Operand.tmp 1)),
        SOper.mk (some 16) none (SOp.ibin BinOp.gtr (Operand.tmp 15) (Operand.const (Value.int IntKind.i64 0)))]
      [0, 1, 16])
    (Stmt.cond (Operand.tmp 16)
      (Stmt.region
        [SOper.mk (some 17) none (SOp.mv (Operand.tmp 0)), SOper.mk (some 18) none (SOp.mv (Operand.tmp 0)),
          SOper.mk (some 19) none (SOp.q (Qk.bi 0 [29]) [Operand.tmp 18]),
          SOper.mk (some 20) none (SOp.slc 1 (Operand.tmp 17) none (some (Operand.tmp 19)) none),
          SOper.mk (some 21) none (SOp.mv (Operand.tmp 1)),
          SOper.mk (some 22) none (SOp.appz 29 3 3 1 8 (Value.int IntKind.i64 0) (Operand.tmp 20) (Operand.tmp 21)),
          SOper.mk (some 23) none (SOp.mv (Operand.tmp 0)), SOper.mk (some 24) none (SOp.len false (Operand.tmp 23)),
          SOper.mk (some 25) none (SOp.slc 1 (Operand.tmp 22) none (some (Operand.tmp 24)) none),
          SOper.mk (some 0) none (SOp.mv (Operand.tmp 25))]
        [0])
      Stmt.skip))
def S171_3 : Stmt :=
  Stmt.seq
  (Stmt.region [SOper.mk (some 26) none (SOp.mv (Operand.tmp 0)), SOper.mk (some 4) none (SOp.mv (Operand.tmp 26))] [4])
  Stmt.ret
def S171_4 : Stmt :=
  Stmt.join S171_2 S171_3 [0] []
def S171_0 : Stmt :=
  Stmt.seq (Stmt.region [SOper.mk (some 4) none (SOp.mv (Operand.const (Value.slice none 0 0)))] [0, 1])
  (Stmt.join S171_1 S171_4 [] [0, 1])
def S171 : FnS := ⟨27, [(4, none)], S171_0⟩
theorem tr171 : trFn Try.prog 171 [] [[0, 1], [], [0, 1], [0, 1, 6], [0, 1], [0], [], [0, 1], [0, 1, 16], [0], [4]] = some S171 := by kernel_rfl
end Go.Proofs.Ytniobbepliknmaa.V
/- The text of slices.Index[[]int,int] as a statement (slots: 0 s, 1 v, 2 s, 3 v, 5 i); no condition. -/
namespace Go.Proofs.Ytniobbepliknmaa.V
open Go
def S107_1 : Stmt :=
  Stmt.seq (Stmt.region [SOper.mk (some 9) none (SOp.ibin BinOp.lss (Operand.tmp 8) (Operand.tmp 7))] [0, 1, 7, 8, 9])
  (Stmt.seq (Stmt.cond (Operand.tmp 9) Stmt.skip (Stmt.exit 0))
    (Stmt.seq
      (Stmt.block 1
        (Stmt.seq
          (Stmt.region
            [SOper.mk (some 10) none (SOp.mv (Operand.tmp 8)), SOper.mk (some 5) none (SOp.mv (Operand.tmp 10))]
            [0, 1, 5, 7, 8])
          (Stmt.seq
            (Stmt.region
              [SOper.mk (some 11) none (SOp.mv (Operand.tmp 1)), SOper.mk (some 12) none (SOp.mv (Operand.tmp 0)),
                SOper.mk (some 13) none (SOp.mv (Operand.tmp 5)),
                SOper.mk (some 14) none (SOp.idx 1 (Operand.tmp 12) (Operand.tmp 13)),
                SOper.mk (some 15) none (SOp.load false 1 (Operand.tmp 14)),
                SOper.mk (some 16) none (SOp.ibin BinOp.eql (Operand.tmp 11) (Operand.tmp 15))]
              [0, 1, 5, 7, 8, 16])
            (Stmt.cond (Operand.tmp 16)
              (Stmt.seq
                (Stmt.region
                  [SOper.mk (some 17) none (SOp.mv (Operand.tmp 5)), SOper.mk (some 4) none (SOp.mv (Operand.tmp 17))]
                  [4])
                Stmt.ret)
              Stmt.skip))))
      (Stmt.region
        [SOper.mk (some 18) none (SOp.ibin BinOp.add (Operand.tmp 8) (Operand.const (Value.int IntKind.i64 1))),
          SOper.mk (some 8) none (SOp.mv (Operand.tmp 18))]
        [0, 1, 7, 8])))
def S107_0 : Stmt :=
  Stmt.seq (Stmt.region [SOper.mk (some 4) none (SOp.mv (Operand.const (Value.int IntKind.i64 0)))] [0, 1])
  (Stmt.seq
    (Stmt.seq
      (Stmt.region
        [SOper.mk (some 6) none (SOp.mv (Operand.tmp 0)), SOper.mk (some 7) none (SOp.len false (Operand.tmp 6)),
          SOper.mk (some 8) none (SOp.mv (Operand.const (Value.int IntKind.i64 0)))]
        [0, 1, 7, 8])
      (Stmt.block 0 (Stmt.loop S107_1 [8] [0, 1, 7])))
    (Stmt.seq (Stmt.region [SOper.mk (some 4) none (SOp.mv (Operand.const (Value.int IntKind.i64 (-1))))] [4])
      Stmt.ret))
def S107 : FnS := ⟨19, [(4, none)], S107_0⟩
theorem tr107 : trFn Try.prog 107 [] [[0, 1], [0, 1, 7, 8], [8], [0, 1, 7], [0, 1, 7, 8, 9], [0, 1, 5, 7, 8], [0, 1, 5, 7, 8, 16], [4], [0, 1, 7, 8], [4]] = some S107 := by kernel_rfl
end Go.Proofs.Ytniobbepliknmaa.V
/- The text of slices.Contains[[]int,int] as a statement (slots: 0 s, 1 v, 2 s, 3 v); no condition. -/
namespace Go.Proofs.Ytniobbepliknmaa.V
open Go
def S32_0 : Stmt :=
  Stmt.seq (Stmt.region [SOper.mk (some 4) none (SOp.mv (Operand.const (Value.bool false)))] [0, 1])
  (Stmt.seq
    (Stmt.region
      [SOper.mk (some 5) none (SOp.mv (Operand.tmp 0)), SOper.mk (some 6) none (SOp.mv (Operand.tmp 1)),
        SOper.mk (some 7) none (SOp.call (Operand.func 107) [Operand.tmp 5, Operand.tmp 6]),
        SOper.mk (some 8) none (SOp.ibin BinOp.geq (Operand.tmp 7) (Operand.const (Value.int IntKind.i64 0))),
        SOper.mk (some 4) none (SOp.mv (Operand.tmp 8))]
      [4])
    Stmt.ret)
def S32 : FnS := ⟨9, [(4, none)], S32_0⟩
theorem tr32 : trFn Try.prog 32 [] [[0, 1], [4]] = some S32 := by kernel_rfl
end Go.Proofs.Ytniobbepliknmaa.V
/- The text of slices.IndexFunc[[]int,int] as a statement (slots: 0 s, 1 f, 2 s, 3 f, 5 i); no condition. -/
namespace Go.Proofs.Ytniobbepliknmaa.V
open Go
def S109_1 : Stmt :=
  Stmt.seq (Stmt.region [SOper.mk (some 9) none (SOp.ibin BinOp.lss (Operand.tmp 8) (Operand.tmp 7))] [0, 1, 7, 8, 9])
  (Stmt.seq (Stmt.cond (Operand.tmp 9) Stmt.skip (Stmt.exit 0))
    (Stmt.seq
      (Stmt.block 1
        (Stmt.seq
          (Stmt.region
            [SOper.mk (some 10) none (SOp.mv (Operand.tmp 8)), SOper.mk (some 5) none (SOp.mv (Operand.tmp 10))]
            [0, 1, 5, 7, 8])
          (Stmt.seq
            (Stmt.region
              [SOper.mk (some 11) none (SOp.mv (Operand.tmp 1)), SOper.mk (some 12) none (SOp.mv (Operand.tmp 0)),
                SOper.mk (some 13) none (SOp.mv (Operand.tmp 5)),
                SOper.mk (some 14) none (SOp.idx 1 (Operand.tmp 12) (Operand.tmp 13)),
                SOper.mk (some 15) none (SOp.load false 1 (Operand.tmp 14)),
                SOper.mk (some 16) none (SOp.call (Operand.tmp 11) [Operand.tmp 15])]
              [0, 1, 5, 7, 8, 16])
            (Stmt.cond (Operand.tmp 16)
              (Stmt.seq
                (Stmt.region
                  [SOper.mk (some 17) none (SOp.mv (Operand.tmp 5)), SOper.mk (some 4) none (SOp.mv (Operand.tmp 17))]
                  [4])
                Stmt.ret)
              Stmt.skip))))
      (Stmt.region
        [SOper.mk (some 18) none (SOp.ibin BinOp.add (Operand.tmp 8) (Operand.const (Value.int IntKind.i64 1))),
          SOper.mk (some 8) none (SOp.mv (Operand.tmp 18))]
        [0, 1, 7, 8])))
def S109_0 : Stmt :=
  Stmt.seq (Stmt.region [SOper.mk (some 4) none (SOp.mv (Operand.const (Value.int IntKind.i64 0)))] [0, 1])
  (Stmt.seq
    (Stmt.seq
      (Stmt.region
        [SOper.mk (some 6) none (SOp.mv (Operand.tmp 0)), SOper.mk (some 7) none (SOp.len false (Operand.tmp 6)),
          SOper.mk (some 8) none (SOp.mv (Operand.const (Value.int IntKind.i64 0)))]
        [0, 1, 7, 8])
      (Stmt.block 0 (Stmt.loop S109_1 [8] [0, 1, 7])))
    (Stmt.seq (Stmt.region [SOper.mk (some 4) none (SOp.mv (Operand.const (Value.int IntKind.i64 (-1))))] [4])
      Stmt.ret))
def S109 : FnS := ⟨19, [(4, none)], S109_0⟩
theorem tr109 : trFn Try.prog 109 [] [[0, 1], [0, 1, 7, 8], [8], [0, 1, 7], [0, 1, 7, 8, 9], [0, 1, 5, 7, 8], [0, 1, 5, 7, 8, 16], [4], [0, 1, 7, 8], [4]] = some S109 := by kernel_rfl
end Go.Proofs.Ytniobbepliknmaa.V
/- The text of slices.ContainsFunc[[]int,int] as a statement (slots: 0 s, 1 f, 2 s, 3 f); no condition. -/
namespace Go.Proofs.Ytniobbepliknmaa.V
open Go
def S35_0 : Stmt :=
  Stmt.seq (Stmt.region [SOper.mk (some 4) none (SOp.mv (Operand.const (Value.bool false)))] [0, 1])
  (Stmt.seq
    (Stmt.region
      [SOper.mk (some 5) none (SOp.mv (Operand.tmp 0)), SOper.mk (some 6) none (SOp.mv (Operand.tmp 1)),
        SOper.mk (some 7) none (SOp.call (Operand.func 109) [Operand.tmp 5, Operand.tmp 6]),
        SOper.mk (some 8) none (SOp.ibin BinOp.geq (Operand.tmp 7) (Operand.const (Value.int IntKind.i64 0))),
        SOper.mk (some 4) none (SOp.mv (Operand.tmp 8))]
      [4])
    Stmt.ret)
def S35 : FnS := ⟨9, [(4, none)], S35_0⟩
theorem tr35 : trFn Try.prog 35 [] [[0, 1], [4]] = some S35 := by kernel_rfl
end Go.Proofs.Ytniobbepliknmaa.V
/- Functions of package slices on whole numbers walked: Clone, Concat, Index, Contains, ContainsFunc; no condition. -/
namespace Go.Proofs.Ytniobbepliknmaa.V
open Go
set_option linter.unusedVariables false
set_option linter.unusedSimpArgs false
attribute [local go_sem] e_seq e_region e_quiet e_join e_loop e_cond e_block e_exit e_ret e_skip e_fin e_kseq e_snrm e_sret e_sex e_bnrm e_bret e_bex e_rnrm e_rret e_res e_condC e_nil e_g e_mv g_mv e_pick g_pick pickC_eq e_ibin g_ibin ibinC_eq e_sbin g_sbin e_beq g_beq beqC_eq e_nilq g_nilq nilqC_sl nilqC_pt nilqC_mp e_un g_un unC_not unC_neg e_conv g_conv convC_eq e_fld g_fld fldC_ref fldC_ptr e_nilCheck g_nilCheck nilCheckC_ref nilCheckC_ptr nilCheckC_fun e_field g_field fieldC_eq e_len g_len lenC_sl lenC_str e_extract g_extract extractC_eq e_mkFunc e_build g_build e_idiv g_idiv idivC_eq e_ishift g_ishift ishiftC_eq e_idx g_idx e_idxA g_idxA e_load g_load loadC_ref loadC_ptr loadB_eq e_slc g_slc e_box boxC_loc boxC_esc e_alloc allocC_loc allocC_esc e_buildS e_store storeC_ref storeC_ptr storeB_eq e_append e_appz e_mk mkC_eq e_call callC_eq e_fn g_fn fnC_eq fnV_min' fnV_max' fnV_rune' e_q g_q e_a e_n g_call g_box g_alloc g_buildS g_store g_append g_mk g_a g_n g_dead e_dead e_callK e_drawn e_tree e_finJ e_tk e_tfin e_tno e_nbt_q e_nbt_qn e_nbt_a e_nbt_an e_nbt_fin e_early_nil e_early_t e_early_f e_nob_nil e_nob_none e_nob_some isBox_dead isBox_v isBox_ref e_dnil e_dk e_ek e_finB vcOps_vc1 e_dcons e_tq e_ekt e_tearly e_talt e_dearly look_nil look_c proj_nil proj_c looks_nil looks_c zip_nil zip_c val_tmp val_const val_func slv_v slv_box slv_ref slot_tmp slot_const slot_func slotL_v slotL_box slotL_ref put_some put_none updBox_c boxSet_box gd_eq slotVals_nil slotVals_c slotVals_b boxV_box boxOn_box slotsOn_nil slotsOn_c slotsOn_b resV_one resV_two vals_nil vals_c allOn_nil allOn_c partOn_nil partOn_c partVals_nil partVals_c fits_nil fits_c fillL_nil fillL_c mkv_one mkv_agg cellsV_agg cellsV_int cellsV_bool cellsV_slice cellsV_string cellsV_pointer cellsV_func cellsV_nilf cellsV_map one'_nil one'_c oc_int oc_bool oc_slice oc_string oc_pointer oc_func oc_nilf oc_map setC_eq iv_add iv_sub iv_mul iv_eql iv_neq iv_lss iv_leq iv_gtr iv_geq iok_add iok_sub iok_mul iok_eql iok_neq iok_lss iok_leq iok_gtr iok_geq pickV_bool args0_nil args0_c bnd_none bnd_some imp_bt imp_bf imp_ebt imp_ebf imp_eb1 imp_np imp_pp beq_tt beq_tf beq_ft beq_ff cond_or cond_and e_round e_meet Int.le_refl Int.toNat_zero decide_true decide_false Bool.or_false Bool.false_or Bool.true_or Bool.or_true Bool.and_false Bool.false_and Bool.bne_false Bool.bne_true beq_iff_eq Int.cast_ofNat_Int not_false_eq_true not_true_eq_false false_and and_false false_implies true_implies true_and and_true Bool.true_and Bool.and_true Bool.not_true Bool.not_false forall_const implies_true List.take_zero List.drop_zero List.take_succ_cons List.drop_succ_cons List.take_nil List.drop_nil List.length_cons List.length_nil List.nil_append List.append_nil List.cons_append Int.toNat_natCast decide_eq_true_eq decide_eq_false_iff_not cond_true cond_false and_self List.getElem?_cons_zero List.getElem?_cons_succ List.set_cons_zero List.set_cons_succ Option.some.injEq exists_eq_left' Nat.zero_add Nat.add_zero Nat.mul_one imp_self true_or or_true or_false false_or Bool.or_eq_true Bool.or_eq_false_iff Bool.and_eq_true Bool.and_eq_false_iff Bool.not_eq_true' Bool.not_eq_false'

theorem slices_clone {Γr : Ctx} {A : Option Addr} {c : Nat} {xs : List Int} (hx : SlOk (lk Γr) A c xs) (hs : xs.length ≤ 1048576) :
    Ret Try.prog 111 [.slice A xs.length c] Γr [] (fun v Γ => ∃ g, Γ = [g] ∧ Bld g (lk []) 3 v xs) := by
  generalize hR : (fun (v : Value) (Γ : Ctx) => ∃ g, _) = R
  refine ret_of_vc1 tr111 (Nat.le_of_ble_eq_true rfl) ?_
  simp only [S111, S111_0, go_sem, Nat.reduceBEq, Nat.reduceAdd, Nat.reduceSub, Nat.reduceMul, Nat.reduceLeDiff, reduceCtorEq, ↓reduceIte, Int.reduceLT, Int.reduceLE, Int.reduceEq, Int.reduceNe]
  refine ⟨fun hn => Up.here ?_, fun hn => ?_⟩
  · have : A = none := by simpa using hn
    subst this
    have := hx.ofNone
    subst this
    subst hR
    exact ⟨_, rfl, Bld.nil _ _ _⟩
  · intro b
    refine s_appS (α := Int) (xs := []) (ix := 1) (L := lk []) rfl ⟨[], ⟨rfl, .inl ⟨rfl, _, rfl⟩⟩, by simp⟩ hx rfl (lk_r _ _) rfl (by simp; omega) (by simp [maxLen]; omega) ?_
    intro v g hB _
    simp only [go_sem, Nat.reduceBEq, Nat.reduceAdd, Nat.reduceSub, Nat.reduceMul, Nat.reduceLeDiff, reduceCtorEq, ↓reduceIte, Int.reduceLT, Int.reduceLE, Int.reduceEq, Int.reduceNe]
    refine Up.sel [[1]] (by decide) fun _ _ => ?_
    subst hR
    exact ⟨_, rfl, hB⟩

theorem slices_grow {Γr : Ctx} (n : Nat) (hn : n ≤ 10000000) :
    Ret Try.prog 171 [.slice none 0 0, .int .i64 n] Γr [] (fun v Γ => ∃ g, Γ = [g] ∧ Bld (α := Int) g (lk []) 3 v []) := by
  generalize hR : (fun (v : Value) (Γ : Ctx) => ∃ g, _) = R
  refine ret_of_vc1 tr171 (Nat.le_of_ble_eq_true rfl) ?_
  simp only [S171, S171_0, go_sem, Nat.reduceBEq, Nat.reduceAdd, Nat.reduceSub, Nat.reduceMul, Nat.reduceLeDiff, reduceCtorEq, ↓reduceIte, Int.reduceLT, Int.reduceLE, Int.reduceEq, Int.reduceNe]
  refine s_split ?_
  simp only [S171_1, S171_2, S171_3, S171_4, go_sem, Nat.reduceBEq, Nat.reduceAdd, Nat.reduceSub, Nat.reduceMul, Nat.reduceLeDiff, reduceCtorEq, ↓reduceIte, Int.reduceLT, Int.reduceLE, Int.reduceEq, Int.reduceNe]
  refine ⟨fun h => by omega, fun _ => Up.here ?_⟩
  refine s_split ?_
  simp only [go_sem, Nat.reduceBEq, Nat.reduceAdd, Nat.reduceSub, Nat.reduceMul, Nat.reduceLeDiff, reduceCtorEq, ↓reduceIte, Int.reduceLT, Int.reduceLE, Int.reduceEq, Int.reduceNe]
  refine s_q trivial (qr_cap (e := 3) (by kernel_rfl)) ?_
  simp only [go_sem, Nat.reduceBEq, Nat.reduceAdd, Nat.reduceSub, Nat.reduceMul, Nat.reduceLeDiff, reduceCtorEq, ↓reduceIte, Int.reduceLT, Int.reduceLE, Int.reduceEq, Int.reduceNe]
  have hw : IntKind.i64.wrap ((n : Int) - IntKind.i64.wrap (0 - 0)) = n := by
    rw [wrap_id (x := 0 - 0) (by omega) (by omega), wrap_id (by omega) (by omega)]
    omega
  rw [hw]
  refine ⟨fun hpos => ?_, fun hz => ?_⟩
  · refine s_q trivial (qr_cap (e := 3) (by kernel_rfl)) ?_
    simp only [go_sem, Nat.reduceBEq, Nat.reduceAdd, Nat.reduceSub, Nat.reduceMul, Nat.reduceLeDiff, reduceCtorEq, ↓reduceIte, Int.reduceLT, Int.reduceLE, Int.reduceEq, Int.reduceNe]
    refine s_hi 0 (by simp only [go_sem, Nat.reduceBEq, Nat.reduceAdd, Nat.reduceSub, Nat.reduceMul, Nat.reduceLeDiff, reduceCtorEq, ↓reduceIte, Int.reduceLT, Int.reduceLE, Int.reduceEq, Int.reduceNe]; exact ⟨_, rfl⟩) (by omega) ?_
    simp only [go_sem, Nat.reduceBEq, Nat.reduceAdd, Nat.reduceSub, Nat.reduceMul, Nat.reduceLeDiff, reduceCtorEq, ↓reduceIte, Int.reduceLT, Int.reduceLE, Int.reduceEq, Int.reduceNe]
    refine s_appz (ix := 0) rfl (by omega) (by omega) (by simp [maxLen]; omega) ?_
    intro v g hr
    rw [Int.toNat_natCast, show cellsV (Value.int .i64 0) = [Sc.enc (0 : Int)] from rfl, zerosL_enc] at hr
    have hB : Bld g (lk []) 3 v (List.replicate n (0 : Int)) := Bld.ofRow _ hr (by simp)
    obtain ⟨A, c, rfl⟩ := hB.val
    simp only [go_sem, Nat.reduceBEq, Nat.reduceAdd, Nat.reduceSub, Nat.reduceMul, Nat.reduceLeDiff, reduceCtorEq, ↓reduceIte, Int.reduceLT, Int.reduceLE, Int.reduceEq, Int.reduceNe]
    refine s_hi 0 (by simp only [go_sem, Nat.reduceBEq, Nat.reduceAdd, Nat.reduceSub, Nat.reduceMul, Nat.reduceLeDiff, reduceCtorEq, ↓reduceIte, Int.reduceLT, Int.reduceLE, Int.reduceEq, Int.reduceNe]; exact ⟨_, rfl⟩) (by omega) ?_
    simp only [go_sem, Nat.reduceBEq, Nat.reduceAdd, Nat.reduceSub, Nat.reduceMul, Nat.reduceLeDiff, reduceCtorEq, ↓reduceIte, Int.reduceLT, Int.reduceLE, Int.reduceEq, Int.reduceNe]
    refine Up.here (Up.here ?_)
    subst hR
    exact ⟨_, rfl, by simpa using hB.take (k := 0) (by omega)⟩
  · refine Up.here (Up.here ?_)
    subst hR
    exact ⟨_, rfl, Bld.nil _ _ _⟩
theorem slices_concat {Γr : Ctx} {B : Option Addr} {d : Nat} {xss : List (List Int)} (hx : SlOk (lk Γr) B d xss) (hs : xss.flatten.length ≤ 5000000) (hl : xss.length ≤ 5000000) :
    Ret Try.prog 110 [.slice B xss.length d] Γr [] (fun v Γ => ∃ g, Γ = [g] ∧ Bld g (lk []) 3 v xss.flatten) := by
  generalize hR : (fun (v : Value) (Γ : Ctx) => ∃ g, _) = R
  refine ret_of_vc tr110 (Nat.le_of_ble_eq_true rfl) ?_
  simp only [S110, S110_0, go_sem, Nat.reduceBEq, Nat.reduceAdd, Nat.reduceSub, Nat.reduceMul, Nat.reduceLeDiff, reduceCtorEq, ↓reduceIte, Int.reduceLT, Int.reduceLE, Int.reduceEq, Int.reduceNe]
  have hpre : ∀ k, (xss.take k).flatten.length ≤ xss.flatten.length := fun k => by
    conv => rhs; rw [← List.take_append_drop k xss, List.flatten_append, List.length_append]
    omega
  have hstep : ∀ k (hk : k < xss.length), (xss.take (k + 1)).flatten = (xss.take k).flatten ++ xss[k] := fun k hk => by
    rw [List.take_succ_eq_append_getElem hk]; simp only [List.flatten_append, List.flatten_cons, List.flatten_nil, List.append_nil]
  refine s_loop (fun f vs Γ => Γ = [] ∧ ∃ k : Nat, vs = [.v true (.int .i64 ((xss.take k).flatten.length : Nat)), .v true (.int .i64 k)] ∧ k + f = xss.length) xss.length (Up.here ⟨rfl, 0, rfl, by omega⟩) ?_
  rintro f vs Γ ⟨rfl, k, rfl, hkf⟩
  simp only [S110_3, go_sem, Nat.reduceBEq, Nat.reduceAdd, Nat.reduceSub, Nat.reduceMul, Nat.reduceLeDiff, reduceCtorEq, ↓reduceIte, Int.reduceLT, Int.reduceLE, Int.reduceEq, Int.reduceNe]
  have h1 := hpre k
  have h2 := hpre (k + 1)
  refine ⟨fun hlt => ?_, fun hge => ?_⟩
  · have hk : k < xss.length := by omega
    have h3 := congrArg List.length (hstep k hk)
    simp only [List.length_append] at h3
    obtain ⟨b, o, hA, A', c', hs', hc⟩ := hx.list hk
    refine s_split ?_
    simp only [S110_1, S110_2, go_sem, Nat.reduceBEq, Nat.reduceAdd, Nat.reduceSub, Nat.reduceMul, Nat.reduceLeDiff, reduceCtorEq, ↓reduceIte, Int.reduceLT, Int.reduceLE, Int.reduceEq, Int.reduceNe]
    refine s_idx hA (by omega) (by omega) ?_
    simp only [go_sem, Nat.reduceBEq, Nat.reduceAdd, Nat.reduceSub, Nat.reduceMul, Nat.reduceLeDiff, reduceCtorEq, ↓reduceIte, Int.reduceLT, Int.reduceLE, Int.reduceEq, Int.reduceNe]
    refine s_ld0 (hc _ (Mem.le.refl _)) (by simp) (by simp) ?_
    simp only [go_sem, Nat.reduceBEq, Nat.reduceAdd, Nat.reduceSub, Nat.reduceMul, Nat.reduceLeDiff, reduceCtorEq, ↓reduceIte, Int.reduceLT, Int.reduceLE, Int.reduceEq, Int.reduceNe]
    simp (disch := omega) only [wrap_id]
    refine ⟨fun h => by omega, fun _ => Up.here ?_⟩
    exact ⟨f - 1, by omega, Up.here ⟨rfl, k + 1, by rw [h3]; rfl, by omega⟩⟩
  have hk : k = xss.length := by omega
  rw [hk, List.take_length]
  refine CallVC.read (slices_grow _ (by omega)) ?_
  rintro v Γ' ⟨g, rfl, hB⟩
  obtain ⟨A0, c0, rfl⟩ := hB.val
  simp only [go_sem, Nat.reduceBEq, Nat.reduceAdd, Nat.reduceSub, Nat.reduceMul, Nat.reduceLeDiff, reduceCtorEq, ↓reduceIte, Int.reduceLT, Int.reduceLE, Int.reduceEq, Int.reduceNe]
  refine s_loop (fun f vs Γ => ∃ g, Γ = [g] ∧ ∃ (k : Nat) (u : Value), vs = [.v true u, .v true (.int .i64 k)] ∧ k + f = xss.length ∧ Bld g (lk []) 3 u (xss.take k).flatten) xss.length (Up.here ⟨_, rfl, 0, _, rfl, by omega, hB⟩) ?_
  rintro f vs Γ ⟨g, rfl, k, u, rfl, hkf, hB⟩
  simp only [S110_4, go_sem, Nat.reduceBEq, Nat.reduceAdd, Nat.reduceSub, Nat.reduceMul, Nat.reduceLeDiff, reduceCtorEq, ↓reduceIte, Int.reduceLT, Int.reduceLE, Int.reduceEq, Int.reduceNe]
  have h1 := hpre k
  have h2 := hpre (k + 1)
  refine ⟨fun hlt => ?_, fun hge => ?_⟩
  · have hk : k < xss.length := by omega
    have h3 := congrArg List.length (hstep k hk)
    simp only [List.length_append] at h3
    obtain ⟨b, o, hA, A', c', hs', hc⟩ := hx.list hk
    refine s_idx hA (by omega) (by omega) ?_
    simp only [go_sem, Nat.reduceBEq, Nat.reduceAdd, Nat.reduceSub, Nat.reduceMul, Nat.reduceLeDiff, reduceCtorEq, ↓reduceIte, Int.reduceLT, Int.reduceLE, Int.reduceEq, Int.reduceNe]
    refine s_ld0 (hc _ (lk_r _ _)) (by simp) (by simp) ?_
    simp only [go_sem, Nat.reduceBEq, Nat.reduceAdd, Nat.reduceSub, Nat.reduceMul, Nat.reduceLeDiff, reduceCtorEq, ↓reduceIte, Int.reduceLT, Int.reduceLE, Int.reduceEq, Int.reduceNe]
    refine s_appS (ix := 0) rfl hB hs' rfl (lk_r _ _) rfl (by omega) (by unfold maxLen; omega) ?_
    intro v' g' hB' _
    simp only [go_sem, Nat.reduceBEq, Nat.reduceAdd, Nat.reduceSub, Nat.reduceMul, Nat.reduceLeDiff, reduceCtorEq, ↓reduceIte, Int.reduceLT, Int.reduceLE, Int.reduceEq, Int.reduceNe]
    simp (disch := omega) only [wrap_id]
    rw [← hstep k hk] at hB'
    exact ⟨f - 1, by omega, Up.here ⟨_, rfl, k + 1, _, rfl, by omega, hB'⟩⟩
  · have hk : k = xss.length := by omega
    rw [hk, List.take_length] at hB
    refine Up.here ?_
    subst hR
    exact ⟨_, rfl, hB⟩

theorem slices_index {Γr : Ctx} {A : Option Addr} {c : Nat} {xs : List Int} (hx : SlOk (lk Γr) A c xs) (x : Int) :
    Ret Try.prog 107 [.slice A xs.length c, .int .i64 x] Γr [] (fun v Γ => Γ = [] ∧ v = .int .i64 (match xs.findIdx? (· == x) with | some i => (i : Int) | none => -1)) := by
  generalize hR : (fun (v : Value) (Γ : Ctx) => Γ = [] ∧ _) = R
  refine ret_of_vc tr107 (Nat.le_of_ble_eq_true rfl) ?_
  have h1 := hx.short
  simp only [S107, S107_0, go_sem, Nat.reduceBEq, Nat.reduceAdd, Nat.reduceSub, Nat.reduceMul, Nat.reduceLeDiff, reduceCtorEq, ↓reduceIte, Int.reduceLT, Int.reduceLE, Int.reduceEq, Int.reduceNe]
  refine s_loop (fun f vs Γ => Γ = [] ∧ ∃ k : Nat, vs = [.v true (.int .i64 k)] ∧ k + f = xs.length ∧ ∀ (j : Nat) (hj : j < xs.length), j < k → xs[j] ≠ x) xs.length (Up.here ⟨rfl, 0, rfl, by omega, by intro j _ h; omega⟩) ?_
  rintro f vs Γ ⟨rfl, k, rfl, hkf, hno⟩
  simp only [S107_1, go_sem, Nat.reduceBEq, Nat.reduceAdd, Nat.reduceSub, Nat.reduceMul, Nat.reduceLeDiff, reduceCtorEq, ↓reduceIte, Int.reduceLT, Int.reduceLE, Int.reduceEq, Int.reduceNe]
  refine ⟨fun hlt => ?_, fun hge => ?_⟩
  · have hk : k < xs.length := by omega
    obtain ⟨b, o, hA, hc1⟩ := hx.int hk
    refine s_idx hA (by omega) (by omega) ?_
    simp only [go_sem, Nat.reduceBEq, Nat.reduceAdd, Nat.reduceSub, Nat.reduceMul, Nat.reduceLeDiff, reduceCtorEq, ↓reduceIte, Int.reduceLT, Int.reduceLE, Int.reduceEq, Int.reduceNe]
    refine s_ld0 (hc1 _ (Mem.le.refl _)) (by simp) (by simp) ?_
    simp only [go_sem, Nat.reduceBEq, Nat.reduceAdd, Nat.reduceSub, Nat.reduceMul, Nat.reduceLeDiff, reduceCtorEq, ↓reduceIte, Int.reduceLT, Int.reduceLE, Int.reduceEq, Int.reduceNe]
    refine ⟨fun he => Up.here ?_, fun hne => ?_⟩
    · subst hR
      refine ⟨rfl, ?_⟩
      have : xs.findIdx? (· == x) = some k := by
        rw [List.findIdx?_eq_some_iff_getElem]
        exact ⟨hk, by simpa using he.symm, fun j hj => by simpa using hno j (by omega) hj⟩
      rw [this]
    · simp (disch := omega) only [wrap_id]
      exact ⟨f - 1, by omega, Up.here ⟨rfl, k + 1, rfl, by omega, fun j hj hjk => by
        by_cases e : j = k
        · subst e; exact fun q => hne q.symm
        · exact hno j hj (by omega)⟩⟩
  · have hk : k = xs.length := by omega
    refine Up.here ?_
    subst hR
    refine ⟨rfl, ?_⟩
    have : xs.findIdx? (· == x) = none := by
      rw [List.findIdx?_eq_none_iff]
      intro y hy
      obtain ⟨j, hj, rfl⟩ := List.getElem_of_mem hy
      simpa using hno j hj (by omega)
    rw [this]
theorem slices_contains {Γr : Ctx} {A : Option Addr} {c : Nat} {xs : List Int} (hx : SlOk (lk Γr) A c xs) (x : Int) :
    Ret Try.prog 32 [.slice A xs.length c, .int .i64 x] Γr [] (fun v Γ => Γ = [] ∧ v = .bool (decide (x ∈ xs))) := by
  generalize hR : (fun (v : Value) (Γ : Ctx) => Γ = [] ∧ _) = R
  refine ret_of_vc tr32 (Nat.le_of_ble_eq_true rfl) ?_
  simp only [S32, S32_0, go_sem, Nat.reduceBEq, Nat.reduceAdd, Nat.reduceSub, Nat.reduceMul, Nat.reduceLeDiff, reduceCtorEq, ↓reduceIte, Int.reduceLT, Int.reduceLE, Int.reduceEq, Int.reduceNe]
  refine CallVC.read (slices_index hx x) ?_
  rintro v Γ' ⟨rfl, rfl⟩
  simp only [go_sem, Nat.reduceBEq, Nat.reduceAdd, Nat.reduceSub, Nat.reduceMul, Nat.reduceLeDiff, reduceCtorEq, ↓reduceIte, Int.reduceLT, Int.reduceLE, Int.reduceEq, Int.reduceNe]
  refine Up.here ?_
  subst hR
  refine ⟨rfl, ?_⟩
  cases hf : xs.findIdx? (· == x) with
  | none =>
    rw [List.findIdx?_eq_none_iff] at hf
    have : x ∉ xs := fun h => by have := hf x h; simp at this
    simp [this]
  | some i =>
    obtain ⟨hi, h1, _⟩ := List.findIdx?_eq_some_iff_getElem.1 hf
    have : x ∈ xs := by
      have : xs[i] = x := by simpa using h1
      rw [← this]
      exact List.getElem_mem _
    simp [this]
/-- a condition of numbers, as a function value -/
def PredOk (Γr : Ctx) (fv : Value) (p : Int → Bool) : Prop := ∃ g c1 c2, fv = .func (.func g) c1 c2 ∧ ∀ (Γ : Ctx) (x : Int), Mem.le (lk Γr) (lk Γ) → Ret Try.prog g (c1.toList ++ [.int .i64 x] ++ c2.toList) Γ [] (fun r Γ => Γ = [] ∧ r = .bool (p x))
theorem slices_indexFunc {Γr : Ctx} {A : Option Addr} {c : Nat} {xs : List Int} (hx : SlOk (lk Γr) A c xs) {fv : Value} {p : Int → Bool} (hp : PredOk Γr fv p) :
    Ret Try.prog 109 [.slice A xs.length c, fv] Γr [] (fun v Γ => Γ = [] ∧ v = .int .i64 (match xs.findIdx? p with | some i => (i : Int) | none => -1)) := by
  generalize hR : (fun (v : Value) (Γ : Ctx) => Γ = [] ∧ _) = R
  refine ret_of_vc tr109 (Nat.le_of_ble_eq_true rfl) ?_
  have h1 := hx.short
  obtain ⟨g, c1, c2, rfl, hp⟩ := hp
  simp only [S109, S109_0, go_sem, Nat.reduceBEq, Nat.reduceAdd, Nat.reduceSub, Nat.reduceMul, Nat.reduceLeDiff, reduceCtorEq, ↓reduceIte, Int.reduceLT, Int.reduceLE, Int.reduceEq, Int.reduceNe]
  refine s_loop (fun f vs Γ => Γ = [] ∧ ∃ k : Nat, vs = [.v true (.int .i64 k)] ∧ k + f = xs.length ∧ ∀ (j : Nat) (hj : j < xs.length), j < k → p xs[j] = false) xs.length (Up.here ⟨rfl, 0, rfl, by omega, by intro j _ h; omega⟩) ?_
  rintro f vs Γ ⟨rfl, k, rfl, hkf, hno⟩
  simp only [S109_1, go_sem, Nat.reduceBEq, Nat.reduceAdd, Nat.reduceSub, Nat.reduceMul, Nat.reduceLeDiff, reduceCtorEq, ↓reduceIte, Int.reduceLT, Int.reduceLE, Int.reduceEq, Int.reduceNe]
  refine ⟨fun hlt => ?_, fun hge => ?_⟩
  · have hk : k < xs.length := by omega
    obtain ⟨b, o, hA, hc1⟩ := hx.int hk
    refine s_idx hA (by omega) (by omega) ?_
    simp only [go_sem, Nat.reduceBEq, Nat.reduceAdd, Nat.reduceSub, Nat.reduceMul, Nat.reduceLeDiff, reduceCtorEq, ↓reduceIte, Int.reduceLT, Int.reduceLE, Int.reduceEq, Int.reduceNe]
    refine s_ld0 (hc1 _ (Mem.le.refl _)) (by simp) (by simp) ?_
    simp only [go_sem, Nat.reduceBEq, Nat.reduceAdd, Nat.reduceSub, Nat.reduceMul, Nat.reduceLeDiff, reduceCtorEq, ↓reduceIte, Int.reduceLT, Int.reduceLE, Int.reduceEq, Int.reduceNe]
    refine CallVC.read (hp _ _ (Mem.le.refl _)) ?_
    rintro v Γ' ⟨rfl, rfl⟩
    simp only [go_sem, Nat.reduceBEq, Nat.reduceAdd, Nat.reduceSub, Nat.reduceMul, Nat.reduceLeDiff, reduceCtorEq, ↓reduceIte, Int.reduceLT, Int.reduceLE, Int.reduceEq, Int.reduceNe]
    refine ⟨fun he => Up.here ?_, fun hne => ?_⟩
    · subst hR
      refine ⟨rfl, ?_⟩
      have : xs.findIdx? p = some k := by
        rw [List.findIdx?_eq_some_iff_getElem]
        exact ⟨hk, he, fun j hj => by simpa using hno j (by omega) hj⟩
      rw [this]
    · simp (disch := omega) only [wrap_id]
      exact ⟨f - 1, by omega, Up.here ⟨rfl, k + 1, rfl, by omega, fun j hj hjk => by
        by_cases e : j = k
        · subst e; exact hne
        · exact hno j hj (by omega)⟩⟩
  · have hk : k = xs.length := by omega
    refine Up.here ?_
    subst hR
    refine ⟨rfl, ?_⟩
    have : xs.findIdx? p = none := by
      rw [List.findIdx?_eq_none_iff]
      intro y hy
      obtain ⟨j, hj, rfl⟩ := List.getElem_of_mem hy
      exact hno j hj (by omega)
    rw [this]
theorem slices_containsFunc {Γr : Ctx} {A : Option Addr} {c : Nat} {xs : List Int} (hx : SlOk (lk Γr) A c xs) {fv : Value} {p : Int → Bool} (hp : PredOk Γr fv p) :
    Ret Try.prog 35 [.slice A xs.length c, fv] Γr [] (fun v Γ => Γ = [] ∧ v = .bool (xs.any p)) := by
  generalize hR : (fun (v : Value) (Γ : Ctx) => Γ = [] ∧ _) = R
  refine ret_of_vc tr35 (Nat.le_of_ble_eq_true rfl) ?_
  simp only [S35, S35_0, go_sem, Nat.reduceBEq, Nat.reduceAdd, Nat.reduceSub, Nat.reduceMul, Nat.reduceLeDiff, reduceCtorEq, ↓reduceIte, Int.reduceLT, Int.reduceLE, Int.reduceEq, Int.reduceNe]
  refine CallVC.read (slices_indexFunc hx hp) ?_
  rintro v Γ' ⟨rfl, rfl⟩
  simp only [go_sem, Nat.reduceBEq, Nat.reduceAdd, Nat.reduceSub, Nat.reduceMul, Nat.reduceLeDiff, reduceCtorEq, ↓reduceIte, Int.reduceLT, Int.reduceLE, Int.reduceEq, Int.reduceNe]
  refine Up.here ?_
  subst hR
  refine ⟨rfl, ?_⟩
  cases hf : xs.findIdx? p with
  | none =>
    rw [List.findIdx?_eq_none_iff] at hf
    have : xs.any p = false := by simpa using hf
    simp [this]
  | some i =>
    obtain ⟨hi, h1, _⟩ := List.findIdx?_eq_some_iff_getElem.1 hf
    have : xs.any p = true := List.any_eq_true.2 ⟨_, List.getElem_mem hi, h1⟩
    simp [this]
end Go.Proofs.Ytniobbepliknmaa.V
/- The text of parlance/parllaw5.TeachTells as a statement (slots: 0 d, 1 h, 2 words, 3 d, 4 h, 5 words, 7 t, 8 e, 9 t, 10 e, 11 f, 12 asked, 13 _, 14 w, 15 ok, 16 f, 17 bad, 18 yes, 19 w, 20 f, 21 a, 22 b, 23 want, 24 least, 25 differ); no condition. -/
namespace Go.Proofs.Ytniobbepliknmaa.V
open Go
def S9_1 : Stmt :=
  Stmt.block 1
  (Stmt.seq
    (Stmt.region
      [SOper.mk (some 78) none (SOp.idx 1 (Operand.tmp 74) (Operand.tmp 76)),
        SOper.mk (some 79) none (SOp.load false 1 (Operand.tmp 78)), SOper.mk (some 14) none (SOp.mv (Operand.tmp 79))]
      [3, 4, 9, 12, 14, 74, 75, 76])
    (Stmt.seq
      (Stmt.region
        [SOper.mk (some 81) none (SOp.mv (Operand.tmp 9)), SOper.mk (some 82) none (SOp.mv (Operand.tmp 14)),
          SOper.mk (some 83) none (SOp.call (Operand.func 48) [Operand.tmp 81, Operand.tmp 82]),
          SOper.mk (some 80) none (SOp.mv (Operand.tmp 83)), SOper.mk (some 84) none (SOp.extract 0 (Operand.tmp 80)),
          SOper.mk (some 85) none (SOp.extract 1 (Operand.tmp 80)), SOper.mk (some 15) none (SOp.mv (Operand.tmp 84)),
          SOper.mk (some 16) none (SOp.mv (Operand.tmp 85))]
        [3, 4, 9, 12, 14, 15, 16, 74, 75, 76])
      (Stmt.seq
        (Stmt.seq
          (Stmt.region
            [SOper.mk (some 86) none (SOp.mv (Operand.tmp 14)),
              SOper.mk (some 87) none (SOp.len false (Operand.tmp 86)),
              SOper.mk (some 88) none
                (SOp.ibin BinOp.gtr (Operand.tmp 87) (Operand.const (Value.int IntKind.i64 2000)))]
            [3, 4, 9, 12, 14, 15, 16, 74, 75, 76, 88])
          (Stmt.cond (Operand.tmp 88)
            (Stmt.seq
              (Stmt.seq
                (Stmt.region
                  [SOper.mk (some 89) none (SOp.mv (Operand.tmp 16)),
                    SOper.mk (some 90) none
                      (SOp.ibin BinOp.neq (Operand.tmp 89) (Operand.const (Value.int IntKind.i64 2))),
                    SOper.mk (some 91) none (SOp.mv (Operand.tmp 90)),
                    SOper.mk (some 92) (some (91, false)) (SOp.mv (Operand.tmp 15)),
                    SOper.mk (some 93) none
                      (SOp.pick (Operand.tmp 91) (Operand.const (Value.bool true)) (Operand.tmp 92))]
                  [3, 4, 9, 12, 74, 75, 76, 93])
                (Stmt.cond (Operand.tmp 93)
                  (Stmt.seq (Stmt.region [SOper.mk (some 6) none (SOp.mv (Operand.const (Value.bool false)))] [6])
                    Stmt.ret)
                  Stmt.skip))
              (Stmt.exit 1))
            Stmt.skip))
        (Stmt.seq
          (Stmt.region
            [SOper.mk (some 94) none (SOp.mv (Operand.tmp 14)), SOper.mk (some 95) none (SOp.mkFunc 49 [Operand.tmp 3]),
              SOper.mk (some 96) none (SOp.call (Operand.func 35) [Operand.tmp 94, Operand.tmp 95]),
              SOper.mk (some 17) none (SOp.mv (Operand.tmp 96))]
            [3, 4, 9, 12, 14, 15, 16, 17, 74, 75, 76])
          (Stmt.seq
            (Stmt.seq
              (Stmt.region [SOper.mk (some 97) none (SOp.mv (Operand.tmp 17))]
                [3, 4, 9, 12, 14, 15, 16, 74, 75, 76, 97])
              (Stmt.cond (Operand.tmp 97)
                (Stmt.seq
                  (Stmt.seq
                    (Stmt.region
                      [SOper.mk (some 98) none (SOp.mv (Operand.tmp 16)),
                        SOper.mk (some 99) none
                          (SOp.ibin BinOp.neq (Operand.tmp 98) (Operand.const (Value.int IntKind.i64 1))),
                        SOper.mk (some 100) none (SOp.mv (Operand.tmp 99)),
                        SOper.mk (some 101) (some (100, false)) (SOp.mv (Operand.tmp 15)),
                        SOper.mk (some 102) none
                          (SOp.pick (Operand.tmp 100) (Operand.const (Value.bool true)) (Operand.tmp 101))]
                      [3, 4, 9, 12, 74, 75, 76, 102])
                    (Stmt.cond (Operand.tmp 102)
                      (Stmt.seq (Stmt.region [SOper.mk (some 6) none (SOp.mv (Operand.const (Value.bool false)))] [6])
                        Stmt.ret)
                      Stmt.skip))
                  (Stmt.exit 1))
                Stmt.skip))
            (Stmt.seq
              (Stmt.region
                [SOper.mk (some 103) none (SOp.mv (Operand.tmp 12)),
                  SOper.mk (some 104) none
                    (SOp.ibin BinOp.add (Operand.tmp 103) (Operand.const (Value.int IntKind.i64 1))),
                  SOper.mk (some 12) none (SOp.mv (Operand.tmp 104))]
                [3, 4, 9, 12, 14, 15, 16, 74, 75, 76])
              (Stmt.seq
                (Stmt.region
                  [SOper.mk (some 105) none (SOp.mv (Operand.tmp 16)),
                    SOper.mk (some 106) none
                      (SOp.ibin BinOp.neq (Operand.tmp 105) (Operand.const (Value.int IntKind.i64 0))),
                    SOper.mk (some 107) none (SOp.mv (Operand.tmp 106)),
                    SOper.mk (some 108) (some (107, false)) (SOp.mv (Operand.tmp 15)),
                    SOper.mk (some 109) (some (107, false)) (SOp.load true 3 (Operand.tmp 3)),
                    SOper.mk (some 110) (some (107, false)) (SOp.mv (Operand.tmp 14)),
                    SOper.mk (some 111) (some (107, false))
                      (SOp.call (Operand.func 50) [Operand.tmp 109, Operand.tmp 110]),
                    SOper.mk (some 112) (some (107, false)) (SOp.beq true (Operand.tmp 108) (Operand.tmp 111)),
                    SOper.mk (some 113) none
                      (SOp.pick (Operand.tmp 107) (Operand.const (Value.bool true)) (Operand.tmp 112))]
                  [3, 4, 9, 12, 74, 75, 76, 113])
                (Stmt.cond (Operand.tmp 113)
                  (Stmt.seq (Stmt.region [SOper.mk (some 6) none (SOp.mv (Operand.const (Value.bool false)))] [6])
                    Stmt.ret)
                  Stmt.skip))))))))
def S9_2 : Stmt :=
  Stmt.region
  [SOper.mk (some 114) none (SOp.ibin BinOp.add (Operand.tmp 76) (Operand.const (Value.int IntKind.i64 1))),
    SOper.mk (some 76) none (SOp.mv (Operand.tmp 114))]
  [3, 4, 9, 12, 74, 75, 76]
def S9_3 : Stmt :=
  Stmt.seq
  (Stmt.region [SOper.mk (some 77) none (SOp.ibin BinOp.lss (Operand.tmp 76) (Operand.tmp 75))]
    [3, 4, 9, 12, 74, 75, 76, 77])
  (Stmt.seq (Stmt.cond (Operand.tmp 77) Stmt.skip (Stmt.exit 0)) (Stmt.join S9_1 S9_2 [12] [3, 4, 9, 74, 75, 76]))
def S9_4 : Stmt :=
  Stmt.seq
  (Stmt.quiet
    [SOper.mk (some 129) none (SOp.mv (Operand.tmp 23)),
      SOper.mk (some 130) none (SOp.ibin BinOp.eql (Operand.tmp 129) (Operand.const (Value.int IntKind.i64 0))),
      SOper.mk (some 131) none (SOp.mv (Operand.tmp 130)),
      SOper.mk (some 132) (some (131, true)) (SOp.fld 2 (Operand.tmp 4)),
      SOper.mk (some 133) (some (131, true)) (SOp.load false 1 (Operand.tmp 132)),
      SOper.mk (some 134) (some (131, true)) (SOp.idx 1 (Operand.tmp 133) (Operand.const (Value.int IntKind.i64 0))),
      SOper.mk (some 135) (some (131, true)) (SOp.load false 1 (Operand.tmp 134)),
      SOper.mk (some 136) (some (131, true)) (SOp.len false (Operand.tmp 135)),
      SOper.mk (some 137) (some (131, true)) (SOp.fld 2 (Operand.tmp 3)),
      SOper.mk (some 138) (some (131, true)) (SOp.load false 1 (Operand.tmp 137)),
      SOper.mk (some 139) (some (131, true)) (SOp.idx 1 (Operand.tmp 138) (Operand.const (Value.int IntKind.i64 0))),
      SOper.mk (some 140) (some (131, true)) (SOp.load false 1 (Operand.tmp 139)),
      SOper.mk (some 141) (some (131, true)) (SOp.len false (Operand.tmp 140)),
      SOper.mk (some 142) (some (131, true)) (SOp.ibin BinOp.neq (Operand.tmp 136) (Operand.tmp 141)),
      SOper.mk (some 143) none (SOp.pick (Operand.tmp 131) (Operand.tmp 142) (Operand.const (Value.bool false)))]
    [3, 4, 12, 18, 19, 20, 21, 22, 23, 143])
  (Stmt.cond (Operand.tmp 143)
    (Stmt.region [SOper.mk (some 23) none (SOp.mv (Operand.const (Value.int IntKind.i64 1)))]
      [3, 4, 12, 18, 19, 20, 21, 22, 23])
    Stmt.skip)
def S9_5 : Stmt :=
  Stmt.seq
  (Stmt.seq
    (Stmt.region
      [SOper.mk (some 144) none (SOp.mv (Operand.tmp 23)),
        SOper.mk (some 145) none (SOp.ibin BinOp.neq (Operand.tmp 144) (Operand.const (Value.int IntKind.i64 0)))]
      [3, 4, 12, 18, 19, 20, 21, 22, 23, 145])
    (Stmt.cond (Operand.tmp 145)
      (Stmt.seq
        (Stmt.region
          [SOper.mk (some 146) none (SOp.mv (Operand.tmp 20)), SOper.mk (some 147) none (SOp.mv (Operand.tmp 23)),
            SOper.mk (some 148) none (SOp.ibin BinOp.eql (Operand.tmp 146) (Operand.tmp 147)),
            SOper.mk (some 149) none (SOp.mv (Operand.tmp 148)),
            SOper.mk (some 150) (some (149, true)) (SOp.mv (Operand.tmp 18)),
            SOper.mk (some 151) (some (149, true)) (SOp.un UnOp.not (Operand.tmp 150)),
            SOper.mk (some 152) none (SOp.pick (Operand.tmp 149) (Operand.tmp 151) (Operand.const (Value.bool false))),
            SOper.mk (some 153) none (SOp.mv (Operand.tmp 152)),
            SOper.mk (some 154) (some (153, true)) (SOp.mv (Operand.tmp 19)),
            SOper.mk (some 155) (some (153, true)) (SOp.len false (Operand.tmp 154)),
            SOper.mk (some 156) (some (153, true))
              (SOp.ibin BinOp.eql (Operand.tmp 155) (Operand.const (Value.int IntKind.i64 0))),
            SOper.mk (some 157) none (SOp.pick (Operand.tmp 153) (Operand.tmp 156) (Operand.const (Value.bool false))),
            SOper.mk (some 158) none (SOp.mv (Operand.tmp 157)),
            SOper.mk (some 159) (some (158, true)) (SOp.mv (Operand.tmp 21)),
            SOper.mk (some 160) (some (158, true)) (SOp.mv (Operand.tmp 12)),
            SOper.mk (some 161) (some (158, true)) (SOp.ibin BinOp.eql (Operand.tmp 159) (Operand.tmp 160)),
            SOper.mk (some 162) none (SOp.pick (Operand.tmp 158) (Operand.tmp 161) (Operand.const (Value.bool false))),
            SOper.mk (some 163) none (SOp.mv (Operand.tmp 162)),
            SOper.mk (some 164) (some (163, true)) (SOp.mv (Operand.tmp 22)),
            SOper.mk (some 165) (some (163, true))
              (SOp.ibin BinOp.eql (Operand.tmp 164) (Operand.const (Value.int IntKind.i64 0))),
            SOper.mk (some 166) none (SOp.pick (Operand.tmp 163) (Operand.tmp 165) (Operand.const (Value.bool false))),
            SOper.mk (some 6) none (SOp.mv (Operand.tmp 166))]
          [6])
        Stmt.ret)
      Stmt.skip))
  (Stmt.seq
    (Stmt.region
      [SOper.mk (some 168) none (SOp.load true 3 (Operand.tmp 3)),
        SOper.mk (some 169) none (SOp.load true 3 (Operand.tmp 4)),
        SOper.mk (some 170) none (SOp.call (Operand.func 53) [Operand.tmp 168, Operand.tmp 169]),
        SOper.mk (some 167) none (SOp.mv (Operand.tmp 170)), SOper.mk (some 171) none (SOp.extract 0 (Operand.tmp 167)),
        SOper.mk (some 172) none (SOp.extract 1 (Operand.tmp 167)), SOper.mk (some 24) none (SOp.mv (Operand.tmp 171)),
        SOper.mk (some 25) none (SOp.mv (Operand.tmp 172))]
      [12, 18, 19, 20, 21, 22, 24, 25])
    (Stmt.seq
      (Stmt.region
        [SOper.mk (some 173) none (SOp.mv (Operand.tmp 20)),
          SOper.mk (some 174) none (SOp.ibin BinOp.eql (Operand.tmp 173) (Operand.const (Value.int IntKind.i64 0))),
          SOper.mk (some 175) none (SOp.mv (Operand.tmp 174)),
          SOper.mk (some 176) (some (175, true)) (SOp.mv (Operand.tmp 18)),
          SOper.mk (some 177) (some (175, true)) (SOp.mv (Operand.tmp 25)),
          SOper.mk (some 178) (some (175, true)) (SOp.un UnOp.not (Operand.tmp 177)),
          SOper.mk (some 179) (some (175, true)) (SOp.beq false (Operand.tmp 176) (Operand.tmp 178)),
          SOper.mk (some 180) none (SOp.pick (Operand.tmp 175) (Operand.tmp 179) (Operand.const (Value.bool false))),
          SOper.mk (some 181) none (SOp.mv (Operand.tmp 180)),
          SOper.mk (some 182) (some (181, true)) (SOp.mv (Operand.tmp 19)),
          SOper.mk (some 183) (some (181, true)) (SOp.mv (Operand.tmp 24)),
          SOper.mk (some 184) (some (181, true)) (SOp.call (Operand.func 28) [Operand.tmp 182, Operand.tmp 183]),
          SOper.mk (some 185) none (SOp.pick (Operand.tmp 181) (Operand.tmp 184) (Operand.const (Value.bool false))),
          SOper.mk (some 186) none (SOp.mv (Operand.tmp 185)),
          SOper.mk (some 187) (some (186, true)) (SOp.mv (Operand.tmp 21)),
          SOper.mk (some 188) (some (186, true)) (SOp.mv (Operand.tmp 12)),
          SOper.mk (some 189) (some (186, true)) (SOp.ibin BinOp.eql (Operand.tmp 187) (Operand.tmp 188)),
          SOper.mk (some 190) none (SOp.pick (Operand.tmp 186) (Operand.tmp 189) (Operand.const (Value.bool false))),
          SOper.mk (some 191) none (SOp.mv (Operand.tmp 190)),
          SOper.mk (some 192) (some (191, true)) (SOp.mv (Operand.tmp 22)),
          SOper.mk (some 193) (some (191, true))
            (SOp.ibin BinOp.eql (Operand.tmp 192) (Operand.const (Value.int IntKind.i64 1))),
          SOper.mk (some 194) none (SOp.pick (Operand.tmp 191) (Operand.tmp 193) (Operand.const (Value.bool false))),
          SOper.mk (some 6) none (SOp.mv (Operand.tmp 194))]
        [6])
      Stmt.ret))
def S9_0 : Stmt :=
  Stmt.seq
  (Stmt.region
    [SOper.mk (some 3) none (SOp.box false 67 (Operand.tmp 0)),
      SOper.mk (some 4) none (SOp.box true 67 (Operand.tmp 1)),
      SOper.mk (some 6) none (SOp.mv (Operand.const (Value.bool false)))]
    [2, 3, 4])
  (Stmt.seq
    (Stmt.seq
      (Stmt.region
        [SOper.mk (some 27) none (SOp.call (Operand.func 45) []),
          SOper.mk (some 28) none (SOp.call (Operand.func 44) [Operand.tmp 27]),
          SOper.mk (some 26) none (SOp.mv (Operand.tmp 28)), SOper.mk (some 29) none (SOp.extract 0 (Operand.tmp 26)),
          SOper.mk (some 30) none (SOp.extract 1 (Operand.tmp 26)), SOper.mk (some 7) none (SOp.mv (Operand.tmp 29)),
          SOper.mk (some 8) none (SOp.mv (Operand.tmp 30))]
        [2, 3, 4, 7, 8])
      (Stmt.seq
        (Stmt.region
          [SOper.mk (some 31) none (SOp.mv (Operand.tmp 8)),
            SOper.mk (some 32) none (SOp.ibin BinOp.neq (Operand.tmp 31) (Operand.const (Value.int IntKind.i64 0))),
            SOper.mk (some 33) none (SOp.mv (Operand.tmp 32)),
            SOper.mk (some 34) (some (33, false)) (SOp.mv (Operand.tmp 7)),
            SOper.mk (some 35) (some (33, false))
              (SOp.nilq 1 false (Operand.tmp 34) (Operand.const (Value.pointer none))),
            SOper.mk (some 36) none (SOp.pick (Operand.tmp 33) (Operand.const (Value.bool true)) (Operand.tmp 35)),
            SOper.mk (some 37) none (SOp.mv (Operand.tmp 36)),
            SOper.mk (some 38) (some (37, false)) (SOp.mv (Operand.tmp 7)),
            SOper.mk (some 39) (some (37, false)) (SOp.call (Operand.func 46) [Operand.tmp 38]),
            SOper.mk (some 40) (some (37, false))
              (SOp.ibin BinOp.neq (Operand.tmp 39) (Operand.const (Value.int IntKind.i64 2))),
            SOper.mk (some 41) none (SOp.pick (Operand.tmp 37) (Operand.const (Value.bool true)) (Operand.tmp 40))]
          [2, 3, 4, 41])
        (Stmt.cond (Operand.tmp 41)
          (Stmt.seq (Stmt.region [SOper.mk (some 6) none (SOp.mv (Operand.const (Value.bool false)))] [6]) Stmt.ret)
          Stmt.skip)))
    (Stmt.seq
      (Stmt.region
        [SOper.mk (some 43) none (SOp.load true 3 (Operand.tmp 3)),
          SOper.mk (some 44) none (SOp.call (Operand.func 44) [Operand.tmp 43]),
          SOper.mk (some 42) none (SOp.mv (Operand.tmp 44)), SOper.mk (some 45) none (SOp.extract 0 (Operand.tmp 42)),
          SOper.mk (some 46) none (SOp.extract 1 (Operand.tmp 42)), SOper.mk (some 9) none (SOp.mv (Operand.tmp 45)),
          SOper.mk (some 10) none (SOp.mv (Operand.tmp 46))]
        [2, 3, 4, 9, 10])
      (Stmt.seq
        (Stmt.seq
          (Stmt.region
            [SOper.mk (some 47) none (SOp.load true 3 (Operand.tmp 3)),
              SOper.mk (some 48) none (SOp.call (Operand.func 47) [Operand.tmp 47]),
              SOper.mk (some 11) none (SOp.mv (Operand.tmp 48))]
            [2, 3, 4, 9, 10, 11])
          (Stmt.seq
            (Stmt.region
              [SOper.mk (some 49) none (SOp.mv (Operand.tmp 11)),
                SOper.mk (some 50) none (SOp.ibin BinOp.neq (Operand.tmp 49) (Operand.const (Value.int IntKind.i64 0)))]
              [2, 3, 4, 9, 10, 11, 50])
            (Stmt.cond (Operand.tmp 50)
              (Stmt.seq
                (Stmt.region
                  [SOper.mk (some 51) none (SOp.mv (Operand.tmp 10)), SOper.mk (some 52) none (SOp.mv (Operand.tmp 11)),
                    SOper.mk (some 53) none (SOp.ibin BinOp.eql (Operand.tmp 51) (Operand.tmp 52)),
                    SOper.mk (some 54) none (SOp.mv (Operand.tmp 53)),
                    SOper.mk (some 55) (some (54, true)) (SOp.mv (Operand.tmp 9)),
                    SOper.mk (some 56) (some (54, true))
                      (SOp.nilq 1 false (Operand.tmp 55) (Operand.const (Value.pointer none))),
                    SOper.mk (some 57) none
                      (SOp.pick (Operand.tmp 54) (Operand.tmp 56) (Operand.const (Value.bool false))),
                    SOper.mk (some 6) none (SOp.mv (Operand.tmp 57))]
                  [6])
                Stmt.ret)
              Stmt.skip)))
        (Stmt.seq
          (Stmt.seq
            (Stmt.drawn
              [(false, SOper.mk (some 58) none (SOp.mv (Operand.tmp 10))),
                (false,
                  SOper.mk (some 59) none
                    (SOp.ibin BinOp.neq (Operand.tmp 58) (Operand.const (Value.int IntKind.i64 0)))),
                (false, SOper.mk (some 60) none (SOp.mv (Operand.tmp 59))),
                (false, SOper.mk (some 61) (some (60, false)) (SOp.mv (Operand.tmp 9))),
                (false,
                  SOper.mk (some 62) (some (60, false))
                    (SOp.nilq 1 false (Operand.tmp 61) (Operand.const (Value.pointer none)))),
                (false,
                  SOper.mk (some 63) none
                    (SOp.pick (Operand.tmp 60) (Operand.const (Value.bool true)) (Operand.tmp 62))),
                (false, SOper.mk (some 64) none (SOp.mv (Operand.tmp 63))),
                (false, SOper.mk (some 65) (some (64, false)) (SOp.mv (Operand.tmp 9))),
                (false, SOper.mk (some 67) (some (64, false)) (SOp.fld 2 (Operand.tmp 3))),
                (true, SOper.mk (some 68) (some (64, false)) (SOp.load false 1 (Operand.tmp 67))),
                (false,
                  SOper.mk (some 69) (some (64, false))
                    (SOp.idx 1 (Operand.tmp 68) (Operand.const (Value.int IntKind.i64 0)))),
                (true, SOper.mk (some 70) (some (64, false)) (SOp.load false 1 (Operand.tmp 69))),
                (false, SOper.mk (some 71) (some (64, false)) (SOp.len false (Operand.tmp 70))),
                (false, SOper.mk (some 66) (some (64, false)) (SOp.call (Operand.func 46) [Operand.tmp 65])),
                (false, SOper.mk (some 72) (some (64, false)) (SOp.ibin BinOp.neq (Operand.tmp 66) (Operand.tmp 71))),
                (false,
                  SOper.mk (some 73) none
                    (SOp.pick (Operand.tmp 64) (Operand.const (Value.bool true)) (Operand.tmp 72)))]
              [2, 3, 4, 9, 73])
            (Stmt.cond (Operand.tmp 73)
              (Stmt.seq (Stmt.region [SOper.mk (some 6) none (SOp.mv (Operand.const (Value.bool false)))] [6]) Stmt.ret)
              Stmt.skip))
          (Stmt.seq
            (Stmt.region [SOper.mk (some 12) none (SOp.mv (Operand.const (Value.int IntKind.i64 0)))] [2, 3, 4, 9, 12])
            (Stmt.seq
              (Stmt.seq
                (Stmt.region
                  [SOper.mk (some 74) none (SOp.mv (Operand.tmp 2)),
                    SOper.mk (some 75) none (SOp.len false (Operand.tmp 74)),
                    SOper.mk (some 76) none (SOp.mv (Operand.const (Value.int IntKind.i64 0)))]
                  [3, 4, 9, 12, 74, 75, 76])
                (Stmt.block 0 (Stmt.loop S9_3 [12, 76] [3, 4, 9, 74, 75])))
              (Stmt.seq
                (Stmt.region
                  [SOper.mk (some 116) none (SOp.mv (Operand.tmp 9)),
                    SOper.mk (some 117) none (SOp.load true 3 (Operand.tmp 4)),
                    SOper.mk (some 118) none (SOp.call (Operand.func 51) [Operand.tmp 116, Operand.tmp 117]),
                    SOper.mk (some 115) none (SOp.mv (Operand.tmp 118)),
                    SOper.mk (some 119) none (SOp.extract 0 (Operand.tmp 115)),
                    SOper.mk (some 120) none (SOp.extract 1 (Operand.tmp 115)),
                    SOper.mk (some 121) none (SOp.extract 2 (Operand.tmp 115)),
                    SOper.mk (some 18) none (SOp.mv (Operand.tmp 119)),
                    SOper.mk (some 19) none (SOp.mv (Operand.tmp 120)),
                    SOper.mk (some 20) none (SOp.mv (Operand.tmp 121))]
                  [3, 4, 9, 12, 18, 19, 20])
                (Stmt.seq
                  (Stmt.region
                    [SOper.mk (some 123) none (SOp.mv (Operand.tmp 9)),
                      SOper.mk (some 124) none (SOp.call (Operand.func 52) [Operand.tmp 123]),
                      SOper.mk (some 122) none (SOp.mv (Operand.tmp 124)),
                      SOper.mk (some 125) none (SOp.extract 0 (Operand.tmp 122)),
                      SOper.mk (some 126) none (SOp.extract 1 (Operand.tmp 122)),
                      SOper.mk (some 21) none (SOp.mv (Operand.tmp 125)),
                      SOper.mk (some 22) none (SOp.mv (Operand.tmp 126))]
                    [3, 4, 12, 18, 19, 20, 21, 22])
                  (Stmt.seq
                    (Stmt.region
                      [SOper.mk (some 127) none (SOp.load true 3 (Operand.tmp 4)),
                        SOper.mk (some 128) none (SOp.call (Operand.func 47) [Operand.tmp 127]),
                        SOper.mk (some 23) none (SOp.mv (Operand.tmp 128))]
                      [3, 4, 12, 18, 19, 20, 21, 22, 23])
                    (Stmt.join S9_4 S9_5 [23] [3, 4, 12, 18, 19, 20, 21, 22]))))))))))
def S9 : FnS := ⟨195, [(6, none)], S9_0⟩
theorem tr9 : trFn Try.prog 9 [4] [[2, 3, 4], [2, 3, 4, 7, 8], [2, 3, 4, 41], [6], [2, 3, 4, 9, 10], [2, 3, 4, 9, 10, 11], [2, 3, 4, 9, 10, 11, 50], [6], [2, 3, 4, 9, 73], [0, 1, 2, 3, 4, 5, 6, 7, 9, 10, 11, 12, 13, 8, 14, 15], [10, 12], [], [0], [0, 1], [0, 1, 2], [0, 1, 2, 3], [0, 1, 2, 3, 4], [0, 1, 2, 3, 4, 5], [0, 1, 2, 3, 4, 5, 6], [0, 1, 2, 3, 4, 5, 6, 7], [0, 1, 2, 3, 4, 5, 6], [0, 1, 2, 3, 4, 5, 6, 9], [0, 1, 2, 3, 4, 5, 6, 9, 10], [0, 1, 2, 3, 4, 5, 6, 9, 10, 11], [0, 1, 2, 3, 4, 5, 6, 9, 10, 11, 12], [0, 1, 2, 3, 4, 5, 6, 7, 8, 9, 10, 11, 12, 13], [0, 1, 2, 3, 4, 5, 6, 7, 8, 9, 10, 11, 12, 13, 14], [6], [2, 3, 4, 9, 12], [3, 4, 9, 12, 74, 75, 76], [12, 76], [3, 4, 9, 74, 75], [3, 4, 9, 12, 74, 75, 76, 77], [12], [3, 4, 9, 74, 75, 76], [3, 4, 9, 12, 14, 74, 75, 76], [3, 4, 9, 12, 14, 15, 16, 74, 75, 76], [3, 4, 9, 12, 14, 15, 16, 74, 75, 76, 88], [3, 4, 9, 12, 74, 75, 76, 93], [6], [3, 4, 9, 12, 14, 15, 16, 17, 74, 75, 76], [3, 4, 9, 12, 14, 15, 16, 74, 75, 76, 97], [3, 4, 9, 12, 74, 75, 76, 102], [6], [3, 4, 9, 12, 14, 15, 16, 74, 75, 76], [3, 4, 9, 12, 74, 75, 76, 113], [6], [3, 4, 9, 12, 74, 75, 76], [3, 4, 9, 12, 18, 19, 20], [3, 4, 12, 18, 19, 20, 21, 22], [3, 4, 12, 18, 19, 20, 21, 22, 23], [23], [3, 4, 12, 18, 19, 20, 21, 22], [3, 4, 12, 18, 19, 20, 21, 22, 23, 143], [3, 4, 12, 18, 19, 20, 21, 22, 23], [3, 4, 12, 18, 19, 20, 21, 22, 23, 145], [6], [12, 18, 19, 20, 21, 22, 24, 25], [6]] = some S9 := by kernel_rfl
end Go.Proofs.Ytniobbepliknmaa.V
/- The text of parlance/parllaw5.TeachTells$1 as a statement (slots: 0 x, 2 x); no condition. -/
namespace Go.Proofs.Ytniobbepliknmaa.V
open Go
def S49_0 : Stmt :=
  Stmt.seq (Stmt.region [SOper.mk (some 3) none (SOp.mv (Operand.const (Value.bool false)))] [0, 1])
  (Stmt.seq
    (Stmt.region
      [SOper.mk (some 4) none (SOp.mv (Operand.tmp 0)),
        SOper.mk (some 5) none (SOp.ibin BinOp.lss (Operand.tmp 4) (Operand.const (Value.int IntKind.i64 0))),
        SOper.mk (some 6) none (SOp.mv (Operand.tmp 5)), SOper.mk (some 7) (some (6, false)) (SOp.mv (Operand.tmp 0)),
        SOper.mk (some 8) (some (6, false)) (SOp.fld 2 (Operand.tmp 1)),
        SOper.mk (some 9) (some (6, false)) (SOp.load false 1 (Operand.tmp 8)),
        SOper.mk (some 10) (some (6, false)) (SOp.idx 1 (Operand.tmp 9) (Operand.const (Value.int IntKind.i64 0))),
        SOper.mk (some 11) (some (6, false)) (SOp.load false 1 (Operand.tmp 10)),
        SOper.mk (some 12) (some (6, false)) (SOp.len false (Operand.tmp 11)),
        SOper.mk (some 13) (some (6, false)) (SOp.ibin BinOp.geq (Operand.tmp 7) (Operand.tmp 12)),
        SOper.mk (some 14) none (SOp.pick (Operand.tmp 6) (Operand.const (Value.bool true)) (Operand.tmp 13)),
        SOper.mk (some 3) none (SOp.mv (Operand.tmp 14))]
      [3])
    Stmt.ret)
def S49 : FnS := ⟨15, [(3, none)], S49_0⟩
theorem tr49 : trFn Try.prog 49 [] [[0, 1], [3]] = some S49 := by kernel_rfl
end Go.Proofs.Ytniobbepliknmaa.V
/- The text of parlance/parllaw5.ends as a statement (slots: ); no condition. -/
namespace Go.Proofs.Ytniobbepliknmaa.V
open Go
def S45_0 : Stmt :=
  Stmt.seq
  (Stmt.region
    [SOper.mk (some 0) none
        (SOp.alloc true 67
          (Value.agg (Array.mk [Value.int IntKind.i64 0, Value.slice none 0 0, Value.slice none 0 0])))]
    [0])
  (Stmt.seq
    (Stmt.region
      [SOper.mk (some 1) none
          (SOp.buildS 3 2 [Value.int IntKind.i64 0, Value.int IntKind.i64 0]
            [(0, 1, Operand.const (Value.int IntKind.i64 (-1))), (1, 1, Operand.const (Value.int IntKind.i64 0))]),
        SOper.mk (some 2) none
          (SOp.buildS 3 2 [Value.int IntKind.i64 0, Value.int IntKind.i64 0]
            [(0, 1, Operand.const (Value.int IntKind.i64 1)), (1, 1, Operand.const (Value.int IntKind.i64 0))]),
        SOper.mk (some 3) none
          (SOp.buildS 3 2 [Value.int IntKind.i64 0, Value.int IntKind.i64 0]
            [(0, 1, Operand.const (Value.int IntKind.i64 1)), (1, 1, Operand.const (Value.int IntKind.i64 0))]),
        SOper.mk (some 4) none
          (SOp.buildS 29 2 [Value.slice none 0 0, Value.slice none 0 0] [(0, 1, Operand.tmp 2), (1, 1, Operand.tmp 3)]),
        SOper.mk (some 5) none
          (SOp.build 67 [Value.int IntKind.i64 0, Value.slice none 0 0, Value.slice none 0 0]
            [(1, 1, Operand.tmp 1), (2, 1, Operand.tmp 4)]),
        SOper.mk none none (SOp.store 3 (Operand.tmp 0) (Operand.tmp 5))]
      [0])
    Stmt.ret)
def S45 : FnS := ⟨6, [(0, some (true, 3))], S45_0⟩
theorem tr45 : trFn Try.prog 45 [0] [[0], [0]] = some S45 := by kernel_rfl
end Go.Proofs.Ytniobbepliknmaa.V
