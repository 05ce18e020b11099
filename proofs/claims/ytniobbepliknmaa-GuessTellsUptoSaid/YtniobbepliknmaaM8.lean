/- Texts put together, in the order in which they build; each says what it proves; no condition. -/
import Derived.Test.YtniobbepliknmaaM2
import Derived.Test.YtniobbepliknmaaProg
import Derived.Test.YtniobbepliknmaaM4
import Derived.Test.YtniobbepliknmaaM7
/- The text of parlance/parllaw5.GuessTells as a statement (slots: 0 terms, 1 nons, 2 yes, 3 no, 4 terms, 5 nons, 6 yes, 7 no, 9 g, 10 e, 11 g, 12 e, 13 f, 14 _, 15 w, 16 _, 17 x, 18 _, 19 w, 20 rules, 21 _, 22 h, 23 ok); no condition. -/
namespace Go.Proofs.Ytniobbepliknmaa.V
open Go
def S12_1 : Stmt :=
  Stmt.seq
  (Stmt.region
    [SOper.mk (some 57) none (SOp.mv (Operand.tmp 0)),
      SOper.mk (some 58) none (SOp.ibin BinOp.lss (Operand.tmp 57) (Operand.const (Value.int IntKind.i64 1))),
      SOper.mk (some 59) none (SOp.mv (Operand.tmp 58)), SOper.mk (some 60) (some (59, false)) (SOp.mv (Operand.tmp 0)),
      SOper.mk (some 61) (some (59, false))
        (SOp.ibin BinOp.gtr (Operand.tmp 60) (Operand.const (Value.int IntKind.i64 2))),
      SOper.mk (some 62) none (SOp.pick (Operand.tmp 59) (Operand.const (Value.bool true)) (Operand.tmp 61)),
      SOper.mk (some 63) none (SOp.mv (Operand.tmp 62)), SOper.mk (some 64) (some (63, false)) (SOp.mv (Operand.tmp 1)),
      SOper.mk (some 65) (some (63, false))
        (SOp.ibin BinOp.lss (Operand.tmp 64) (Operand.const (Value.int IntKind.i64 1))),
      SOper.mk (some 66) none (SOp.pick (Operand.tmp 63) (Operand.const (Value.bool true)) (Operand.tmp 65)),
      SOper.mk (some 67) none (SOp.mv (Operand.tmp 66)), SOper.mk (some 68) (some (67, false)) (SOp.mv (Operand.tmp 1)),
      SOper.mk (some 69) (some (67, false))
        (SOp.ibin BinOp.gtr (Operand.tmp 68) (Operand.const (Value.int IntKind.i64 2))),
      SOper.mk (some 70) none (SOp.pick (Operand.tmp 67) (Operand.const (Value.bool true)) (Operand.tmp 69))]
    [0, 1, 2, 3, 11, 12, 13, 70])
  (Stmt.cond (Operand.tmp 70)
    (Stmt.region [SOper.mk (some 13) none (SOp.mv (Operand.const (Value.int IntKind.i64 1)))] [0, 1, 2, 3, 11, 12, 13])
    (Stmt.seq
      (Stmt.region
        [SOper.mk (some 71) none (SOp.mv (Operand.tmp 2)), SOper.mk (some 72) none (SOp.len false (Operand.tmp 71)),
          SOper.mk (some 73) none (SOp.ibin BinOp.gtr (Operand.tmp 72) (Operand.const (Value.int IntKind.i64 6))),
          SOper.mk (some 74) none (SOp.mv (Operand.tmp 73)),
          SOper.mk (some 75) (some (74, false)) (SOp.mv (Operand.tmp 3)),
          SOper.mk (some 76) (some (74, false)) (SOp.len false (Operand.tmp 75)),
          SOper.mk (some 77) (some (74, false))
            (SOp.ibin BinOp.gtr (Operand.tmp 76) (Operand.const (Value.int IntKind.i64 6))),
          SOper.mk (some 78) none (SOp.pick (Operand.tmp 74) (Operand.const (Value.bool true)) (Operand.tmp 77))]
        [0, 1, 2, 3, 11, 12, 13, 78])
      (Stmt.cond (Operand.tmp 78)
        (Stmt.region [SOper.mk (some 13) none (SOp.mv (Operand.const (Value.int IntKind.i64 2)))]
          [0, 1, 2, 3, 11, 12, 13])
        Stmt.skip)))
def S12_2 : Stmt :=
  Stmt.seq
  (Stmt.region
    [SOper.mk (some 88) none (SOp.mv (Operand.tmp 13)),
      SOper.mk (some 89) none (SOp.ibin BinOp.eql (Operand.tmp 88) (Operand.const (Value.int IntKind.i64 0))),
      SOper.mk (some 90) none (SOp.mv (Operand.tmp 89)), SOper.mk (some 91) (some (90, true)) (SOp.mv (Operand.tmp 15)),
      SOper.mk (some 92) (some (90, true)) (SOp.len false (Operand.tmp 91)),
      SOper.mk (some 93) (some (90, true))
        (SOp.ibin BinOp.gtr (Operand.tmp 92) (Operand.const (Value.int IntKind.i64 5))),
      SOper.mk (some 94) none (SOp.pick (Operand.tmp 90) (Operand.tmp 93) (Operand.const (Value.bool false)))]
    [0, 1, 2, 3, 11, 12, 13, 15, 82, 83, 84, 94])
  (Stmt.cond (Operand.tmp 94)
    (Stmt.region [SOper.mk (some 13) none (SOp.mv (Operand.const (Value.int IntKind.i64 2)))]
      [0, 1, 2, 3, 11, 12, 13, 15, 82, 83, 84])
    Stmt.skip)
def S12_3 : Stmt :=
  Stmt.block 3
  (Stmt.seq
    (Stmt.region
      [SOper.mk (some 99) none (SOp.idx 1 (Operand.tmp 95) (Operand.tmp 97)),
        SOper.mk (some 100) none (SOp.load false 1 (Operand.tmp 99)),
        SOper.mk (some 17) none (SOp.mv (Operand.tmp 100))]
      [0, 1, 2, 3, 11, 12, 13, 17, 82, 83, 84, 95, 96, 97])
    (Stmt.seq
      (Stmt.region
        [SOper.mk (some 101) none (SOp.mv (Operand.tmp 13)),
          SOper.mk (some 102) none (SOp.ibin BinOp.eql (Operand.tmp 101) (Operand.const (Value.int IntKind.i64 0))),
          SOper.mk (some 103) none (SOp.mv (Operand.tmp 102)),
          SOper.mk (some 104) (some (103, true)) (SOp.mv (Operand.tmp 17)),
          SOper.mk (some 105) (some (103, true))
            (SOp.ibin BinOp.lss (Operand.tmp 104) (Operand.const (Value.int IntKind.i64 0))),
          SOper.mk (some 106) (some (103, true)) (SOp.mv (Operand.tmp 105)),
          SOper.mk (some 107) (some (106, false)) (SOp.mv (Operand.tmp 17)),
          SOper.mk (some 108) (some (106, false)) (SOp.mv (Operand.tmp 0)),
          SOper.mk (some 109) (some (106, false)) (SOp.ibin BinOp.geq (Operand.tmp 107) (Operand.tmp 108)),
          SOper.mk (some 110) (some (103, true))
            (SOp.pick (Operand.tmp 106) (Operand.const (Value.bool true)) (Operand.tmp 109)),
          SOper.mk (some 111) none (SOp.pick (Operand.tmp 103) (Operand.tmp 110) (Operand.const (Value.bool false)))]
        [0, 1, 2, 3, 11, 12, 13, 82, 83, 84, 95, 96, 97, 111])
      (Stmt.cond (Operand.tmp 111)
        (Stmt.region [SOper.mk (some 13) none (SOp.mv (Operand.const (Value.int IntKind.i64 1)))]
          [0, 1, 2, 3, 11, 12, 13, 82, 83, 84, 95, 96, 97])
        Stmt.skip)))
def S12_4 : Stmt :=
  Stmt.region
  [SOper.mk (some 112) none (SOp.ibin BinOp.add (Operand.tmp 97) (Operand.const (Value.int IntKind.i64 1))),
    SOper.mk (some 97) none (SOp.mv (Operand.tmp 112))]
  [0, 1, 2, 3, 11, 12, 13, 82, 83, 84, 95, 96, 97]
def S12_5 : Stmt :=
  Stmt.seq
  (Stmt.region [SOper.mk (some 98) none (SOp.ibin BinOp.lss (Operand.tmp 97) (Operand.tmp 96))]
    [0, 1, 2, 3, 11, 12, 13, 82, 83, 84, 95, 96, 97, 98])
  (Stmt.seq (Stmt.cond (Operand.tmp 98) Stmt.skip (Stmt.exit 2))
    (Stmt.join S12_3 S12_4 [13] [0, 1, 2, 3, 11, 12, 82, 83, 84, 95, 96, 97]))
def S12_6 : Stmt :=
  Stmt.seq
  (Stmt.region
    [SOper.mk (some 95) none (SOp.mv (Operand.tmp 15)), SOper.mk (some 96) none (SOp.len false (Operand.tmp 95)),
      SOper.mk (some 97) none (SOp.mv (Operand.const (Value.int IntKind.i64 0)))]
    [0, 1, 2, 3, 11, 12, 13, 82, 83, 84, 95, 96, 97])
  (Stmt.block 2 (Stmt.loop S12_5 [13, 97] [0, 1, 2, 3, 11, 12, 82, 83, 84, 95, 96]))
def S12_7 : Stmt :=
  Stmt.block 1
  (Stmt.seq
    (Stmt.region
      [SOper.mk (some 86) none (SOp.idx 1 (Operand.tmp 82) (Operand.tmp 84)),
        SOper.mk (some 87) none (SOp.load false 1 (Operand.tmp 86)), SOper.mk (some 15) none (SOp.mv (Operand.tmp 87))]
      [0, 1, 2, 3, 11, 12, 13, 15, 82, 83, 84])
    (Stmt.join S12_2 S12_6 [13] [0, 1, 2, 3, 11, 12, 15, 82, 83, 84]))
def S12_8 : Stmt :=
  Stmt.region
  [SOper.mk (some 113) none (SOp.ibin BinOp.add (Operand.tmp 84) (Operand.const (Value.int IntKind.i64 1))),
    SOper.mk (some 84) none (SOp.mv (Operand.tmp 113))]
  [0, 1, 2, 3, 11, 12, 13, 82, 83, 84]
def S12_9 : Stmt :=
  Stmt.seq
  (Stmt.region [SOper.mk (some 85) none (SOp.ibin BinOp.lss (Operand.tmp 84) (Operand.tmp 83))]
    [0, 1, 2, 3, 11, 12, 13, 82, 83, 84, 85])
  (Stmt.seq (Stmt.cond (Operand.tmp 85) Stmt.skip (Stmt.exit 0))
    (Stmt.join S12_7 S12_8 [13] [0, 1, 2, 3, 11, 12, 82, 83, 84]))
def S12_10 : Stmt :=
  Stmt.block 5
  (Stmt.seq
    (Stmt.region
      [SOper.mk (some 118) none (SOp.idx 1 (Operand.tmp 114) (Operand.tmp 116)),
        SOper.mk (some 119) none (SOp.load false 1 (Operand.tmp 118)),
        SOper.mk (some 19) none (SOp.alloc false 29 (Value.slice none 0 0)),
        SOper.mk none none (SOp.store 1 (Operand.tmp 19) (Operand.tmp 119))]
      [0, 1, 2, 3, 11, 12, 13, 19, 114, 115, 116])
    (Stmt.seq
      (Stmt.region
        [SOper.mk (some 120) none (SOp.mv (Operand.tmp 13)),
          SOper.mk (some 121) none (SOp.ibin BinOp.eql (Operand.tmp 120) (Operand.const (Value.int IntKind.i64 0))),
          SOper.mk (some 122) none (SOp.mv (Operand.tmp 121)),
          SOper.mk (some 123) (some (122, true)) (SOp.mv (Operand.tmp 2)),
          SOper.mk (some 124) (some (122, true)) (SOp.mkFunc 60 [Operand.tmp 19]),
          SOper.mk (some 125) (some (122, true)) (SOp.call (Operand.func 59) [Operand.tmp 123, Operand.tmp 124]),
          SOper.mk (some 126) none (SOp.pick (Operand.tmp 122) (Operand.tmp 125) (Operand.const (Value.bool false)))]
        [0, 1, 2, 3, 11, 12, 13, 114, 115, 116, 126])
      (Stmt.cond (Operand.tmp 126)
        (Stmt.region [SOper.mk (some 13) none (SOp.mv (Operand.const (Value.int IntKind.i64 8)))]
          [0, 1, 2, 3, 11, 12, 13, 114, 115, 116])
        Stmt.skip)))
def S12_11 : Stmt :=
  Stmt.region
  [SOper.mk (some 127) none (SOp.ibin BinOp.add (Operand.tmp 116) (Operand.const (Value.int IntKind.i64 1))),
    SOper.mk (some 116) none (SOp.mv (Operand.tmp 127))]
  [0, 1, 2, 3, 11, 12, 13, 114, 115, 116]
def S12_12 : Stmt :=
  Stmt.seq
  (Stmt.region [SOper.mk (some 117) none (SOp.ibin BinOp.lss (Operand.tmp 116) (Operand.tmp 115))]
    [0, 1, 2, 3, 11, 12, 13, 114, 115, 116, 117])
  (Stmt.seq (Stmt.cond (Operand.tmp 117) Stmt.skip (Stmt.exit 4))
    (Stmt.join S12_10 S12_11 [13] [0, 1, 2, 3, 11, 12, 114, 115, 116]))
def S12_13 : Stmt :=
  Stmt.seq
  (Stmt.seq
    (Stmt.region
      [SOper.mk (some 79) none (SOp.mv (Operand.tmp 2)), SOper.mk (some 80) none (SOp.mv (Operand.tmp 3)),
        SOper.mk (some 81) none
          (SOp.buildS 65 2 [Value.slice none 0 0, Value.slice none 0 0]
            [(0, 1, Operand.tmp 79), (1, 1, Operand.tmp 80)]),
        SOper.mk (some 82) none (SOp.call (Operand.func 58) [Operand.tmp 81]),
        SOper.mk (some 83) none (SOp.len false (Operand.tmp 82)),
        SOper.mk (some 84) none (SOp.mv (Operand.const (Value.int IntKind.i64 0)))]
      [0, 1, 2, 3, 11, 12, 13, 82, 83, 84])
    (Stmt.block 0 (Stmt.loop S12_9 [13, 84] [0, 1, 2, 3, 11, 12, 82, 83])))
  (Stmt.seq
    (Stmt.seq
      (Stmt.region
        [SOper.mk (some 114) none (SOp.mv (Operand.tmp 3)), SOper.mk (some 115) none (SOp.len false (Operand.tmp 114)),
          SOper.mk (some 116) none (SOp.mv (Operand.const (Value.int IntKind.i64 0)))]
        [0, 1, 2, 3, 11, 12, 13, 114, 115, 116])
      (Stmt.block 4 (Stmt.loop S12_12 [13, 116] [0, 1, 2, 3, 11, 12, 114, 115])))
    (Stmt.seq
      (Stmt.seq
        (Stmt.region
          [SOper.mk (some 128) none (SOp.mv (Operand.tmp 13)),
            SOper.mk (some 129) none (SOp.ibin BinOp.neq (Operand.tmp 128) (Operand.const (Value.int IntKind.i64 0)))]
          [0, 1, 2, 3, 11, 12, 13, 129])
        (Stmt.cond (Operand.tmp 129)
          (Stmt.seq
            (Stmt.region
              [SOper.mk (some 130) none (SOp.mv (Operand.tmp 12)), SOper.mk (some 131) none (SOp.mv (Operand.tmp 13)),
                SOper.mk (some 132) none (SOp.ibin BinOp.eql (Operand.tmp 130) (Operand.tmp 131)),
                SOper.mk (some 133) none (SOp.mv (Operand.tmp 132)),
                SOper.mk (some 134) (some (133, true)) (SOp.fld 1 (Operand.tmp 11)),
                SOper.mk (some 135) (some (133, true)) (SOp.load false 1 (Operand.tmp 134)),
                SOper.mk (some 136) (some (133, true))
                  (SOp.ibin BinOp.eql (Operand.tmp 135) (Operand.const (Value.int IntKind.i64 0))),
                SOper.mk (some 137) none
                  (SOp.pick (Operand.tmp 133) (Operand.tmp 136) (Operand.const (Value.bool false))),
                SOper.mk (some 138) none (SOp.mv (Operand.tmp 137)),
                SOper.mk (some 139) (some (138, true)) (SOp.fld 3 (Operand.tmp 11)),
                SOper.mk (some 140) (some (138, true)) (SOp.load false 1 (Operand.tmp 139)),
                SOper.mk (some 141) (some (138, true)) (SOp.len false (Operand.tmp 140)),
                SOper.mk (some 142) (some (138, true))
                  (SOp.ibin BinOp.eql (Operand.tmp 141) (Operand.const (Value.int IntKind.i64 0))),
                SOper.mk (some 143) none
                  (SOp.pick (Operand.tmp 138) (Operand.tmp 142) (Operand.const (Value.bool false))),
                SOper.mk (some 8) none (SOp.mv (Operand.tmp 143))]
              [8])
            Stmt.ret)
          Stmt.skip))
      (Stmt.seq
        (Stmt.seq
          (Stmt.region
            [SOper.mk (some 144) none (SOp.mv (Operand.tmp 1)),
              SOper.mk (some 145) none (SOp.ibin BinOp.eql (Operand.tmp 144) (Operand.const (Value.int IntKind.i64 2))),
              SOper.mk (some 146) none (SOp.mv (Operand.tmp 145)),
              SOper.mk (some 147) (some (146, true)) (SOp.mv (Operand.tmp 0)),
              SOper.mk (some 148) (some (146, true))
                (SOp.ibin BinOp.eql (Operand.tmp 147) (Operand.const (Value.int IntKind.i64 2))),
              SOper.mk (some 149) (some (146, true)) (SOp.mv (Operand.tmp 148)),
              SOper.mk (some 150) (some (149, false)) (SOp.mv (Operand.tmp 2)),
              SOper.mk (some 151) (some (149, false)) (SOp.len false (Operand.tmp 150)),
              SOper.mk (some 152) (some (149, false))
                (SOp.ibin BinOp.gtr (Operand.tmp 151) (Operand.const (Value.int IntKind.i64 1))),
              SOper.mk (some 153) (some (146, true))
                (SOp.pick (Operand.tmp 149) (Operand.const (Value.bool true)) (Operand.tmp 152)),
              SOper.mk (some 154) none
                (SOp.pick (Operand.tmp 146) (Operand.tmp 153) (Operand.const (Value.bool false)))]
            [0, 1, 2, 3, 11, 12, 154])
          (Stmt.cond (Operand.tmp 154)
            (Stmt.seq
              (Stmt.region
                [SOper.mk (some 155) none (SOp.mv (Operand.tmp 12)),
                  SOper.mk (some 156) none
                    (SOp.ibin BinOp.eql (Operand.tmp 155) (Operand.const (Value.int IntKind.i64 0))),
                  SOper.mk (some 157) none (SOp.mv (Operand.tmp 156)),
                  SOper.mk (some 158) (some (157, true)) (SOp.fld 3 (Operand.tmp 11)),
                  SOper.mk (some 159) (some (157, true)) (SOp.load false 1 (Operand.tmp 158)),
                  SOper.mk (some 160) (some (157, true)) (SOp.len false (Operand.tmp 159)),
                  SOper.mk (some 161) (some (157, true))
                    (SOp.ibin BinOp.leq (Operand.tmp 160) (Operand.const (Value.int IntKind.i64 3))),
                  SOper.mk (some 162) none
                    (SOp.pick (Operand.tmp 157) (Operand.tmp 161) (Operand.const (Value.bool false))),
                  SOper.mk (some 163) none (SOp.mv (Operand.tmp 162)),
                  SOper.mk (some 164) (some (163, false)) (SOp.mv (Operand.tmp 12)),
                  SOper.mk (some 165) (some (163, false))
                    (SOp.ibin BinOp.eql (Operand.tmp 164) (Operand.const (Value.int IntKind.i64 5))),
                  SOper.mk (some 166) none
                    (SOp.pick (Operand.tmp 163) (Operand.const (Value.bool true)) (Operand.tmp 165)),
                  SOper.mk (some 8) none (SOp.mv (Operand.tmp 166))]
                [8])
              Stmt.ret)
            Stmt.skip))
        (Stmt.seq
          (Stmt.region
            [SOper.mk (some 168) none (SOp.mv (Operand.tmp 0)), SOper.mk (some 169) none (SOp.mv (Operand.tmp 1)),
              SOper.mk (some 170) none (SOp.call (Operand.func 24) [Operand.tmp 168, Operand.tmp 169]),
              SOper.mk (some 167) none (SOp.mv (Operand.tmp 170)),
              SOper.mk (some 171) none (SOp.extract 0 (Operand.tmp 167)),
              SOper.mk (some 172) none (SOp.extract 1 (Operand.tmp 167)),
              SOper.mk (some 20) none (SOp.mv (Operand.tmp 171)), SOper.mk (some 21) none (SOp.mv (Operand.tmp 172))]
            [0, 1, 2, 3, 11, 12, 20])
          (Stmt.seq
            (Stmt.region
              [SOper.mk (some 174) none (SOp.mv (Operand.tmp 0)), SOper.mk (some 175) none (SOp.mv (Operand.tmp 1)),
                SOper.mk (some 176) none (SOp.mv (Operand.tmp 20)), SOper.mk (some 177) none (SOp.mv (Operand.tmp 2)),
                SOper.mk (some 178) none (SOp.mv (Operand.tmp 3)),
                SOper.mk (some 179) none
                  (SOp.call (Operand.func 61)
                    [Operand.tmp 174, Operand.tmp 175, Operand.tmp 176, Operand.tmp 177, Operand.tmp 178]),
                SOper.mk (some 173) none (SOp.mv (Operand.tmp 179)),
                SOper.mk (some 180) none (SOp.extract 0 (Operand.tmp 173)),
                SOper.mk (some 181) none (SOp.extract 1 (Operand.tmp 173)),
                SOper.mk (some 22) none
                  (SOp.alloc true 57
                    (Value.agg
                      (Array.mk
                        [Value.int IntKind.i64 0, Value.int IntKind.i64 0, Value.int IntKind.i64 0,
                          Value.slice none 0 0]))),
                SOper.mk none none (SOp.store 4 (Operand.tmp 22) (Operand.tmp 180)),
                SOper.mk (some 23) none (SOp.mv (Operand.tmp 181))]
              [0, 1, 11, 12, 22, 23])
            (Stmt.seq
              (Stmt.seq
                (Stmt.region
                  [SOper.mk (some 182) none (SOp.mv (Operand.tmp 23)),
                    SOper.mk (some 183) none (SOp.un UnOp.not (Operand.tmp 182))]
                  [0, 1, 11, 12, 22, 183])
                (Stmt.cond (Operand.tmp 183)
                  (Stmt.seq
                    (Stmt.region
                      [SOper.mk (some 184) none (SOp.mv (Operand.tmp 12)),
                        SOper.mk (some 185) none
                          (SOp.ibin BinOp.eql (Operand.tmp 184) (Operand.const (Value.int IntKind.i64 5))),
                        SOper.mk (some 186) none (SOp.mv (Operand.tmp 185)),
                        SOper.mk (some 187) (some (186, true)) (SOp.fld 1 (Operand.tmp 11)),
                        SOper.mk (some 188) (some (186, true)) (SOp.load false 1 (Operand.tmp 187)),
                        SOper.mk (some 189) (some (186, true))
                          (SOp.ibin BinOp.eql (Operand.tmp 188) (Operand.const (Value.int IntKind.i64 0))),
                        SOper.mk (some 190) none
                          (SOp.pick (Operand.tmp 186) (Operand.tmp 189) (Operand.const (Value.bool false))),
                        SOper.mk (some 8) none (SOp.mv (Operand.tmp 190))]
                      [8])
                    Stmt.ret)
                  Stmt.skip))
              (Stmt.seq
                (Stmt.region
                  [SOper.mk (some 191) none (SOp.mv (Operand.tmp 12)),
                    SOper.mk (some 192) none
                      (SOp.ibin BinOp.eql (Operand.tmp 191) (Operand.const (Value.int IntKind.i64 0))),
                    SOper.mk (some 193) none (SOp.mv (Operand.tmp 192)),
                    SOper.mk (some 194) (some (193, true)) (SOp.fld 0 (Operand.tmp 11)),
                    SOper.mk (some 195) (some (193, true)) (SOp.load false 1 (Operand.tmp 194)),
                    SOper.mk (some 196) (some (193, true)) (SOp.mv (Operand.tmp 0)),
                    SOper.mk (some 197) (some (193, true)) (SOp.ibin BinOp.eql (Operand.tmp 195) (Operand.tmp 196)),
                    SOper.mk (some 198) none
                      (SOp.pick (Operand.tmp 193) (Operand.tmp 197) (Operand.const (Value.bool false))),
                    SOper.mk (some 199) none (SOp.mv (Operand.tmp 198)),
                    SOper.mk (some 200) (some (199, true)) (SOp.fld 1 (Operand.tmp 11)),
                    SOper.mk (some 201) (some (199, true)) (SOp.load false 1 (Operand.tmp 200)),
                    SOper.mk (some 202) (some (199, true)) (SOp.mv (Operand.tmp 1)),
                    SOper.mk (some 203) (some (199, true)) (SOp.ibin BinOp.eql (Operand.tmp 201) (Operand.tmp 202)),
                    SOper.mk (some 204) none
                      (SOp.pick (Operand.tmp 199) (Operand.tmp 203) (Operand.const (Value.bool false))),
                    SOper.mk (some 205) none (SOp.mv (Operand.tmp 204)),
                    SOper.mk (some 206) (some (205, true)) (SOp.fld 2 (Operand.tmp 11)),
                    SOper.mk (some 207) (some (205, true)) (SOp.load false 1 (Operand.tmp 206)),
                    SOper.mk (some 208) (some (205, true))
                      (SOp.ibin BinOp.eql (Operand.tmp 207) (Operand.const (Value.int IntKind.i64 0))),
                    SOper.mk (some 209) none
                      (SOp.pick (Operand.tmp 205) (Operand.tmp 208) (Operand.const (Value.bool false))),
                    SOper.mk (some 210) none (SOp.mv (Operand.tmp 209)),
                    SOper.mk (some 211) (some (210, true)) (SOp.fld 3 (Operand.tmp 11)),
                    SOper.mk (some 212) (some (210, true)) (SOp.load false 1 (Operand.tmp 211)),
                    SOper.mk (some 213) (some (210, true)) (SOp.fld 3 (Operand.tmp 22)),
                    SOper.mk (some 214) (some (210, true)) (SOp.load false 1 (Operand.tmp 213)),
                    SOper.mk (some 215) (some (210, true))
                      (SOp.call (Operand.func 62) [Operand.tmp 212, Operand.tmp 214, Operand.func 63]),
                    SOper.mk (some 216) none
                      (SOp.pick (Operand.tmp 210) (Operand.tmp 215) (Operand.const (Value.bool false))),
                    SOper.mk (some 8) none (SOp.mv (Operand.tmp 216))]
                  [8])
                Stmt.ret)))))))
def S12_0 : Stmt :=
  Stmt.seq (Stmt.region [SOper.mk (some 8) none (SOp.mv (Operand.const (Value.bool false)))] [0, 1, 2, 3])
  (Stmt.seq
    (Stmt.seq
      (Stmt.region
        [SOper.mk (some 25) none
            (SOp.buildS 3 1 [Value.int IntKind.i64 0] [(0, 1, Operand.const (Value.int IntKind.i64 0))]),
          SOper.mk (some 26) none (SOp.buildS 29 1 [Value.slice none 0 0] [(0, 1, Operand.tmp 25)]),
          SOper.mk (some 27) none (SOp.buildS 3 0 [] []),
          SOper.mk (some 28) none (SOp.buildS 29 1 [Value.slice none 0 0] [(0, 1, Operand.tmp 27)]),
          SOper.mk (some 29) none
            (SOp.call (Operand.func 57)
              [Operand.const (Value.int IntKind.i64 1), Operand.const (Value.int IntKind.i64 1), Operand.tmp 26,
                Operand.tmp 28]),
          SOper.mk (some 24) none (SOp.mv (Operand.tmp 29)), SOper.mk (some 30) none (SOp.extract 0 (Operand.tmp 24)),
          SOper.mk (some 31) none (SOp.extract 1 (Operand.tmp 24)),
          SOper.mk (some 9) none
            (SOp.alloc true 57
              (Value.agg
                (Array.mk
                  [Value.int IntKind.i64 0, Value.int IntKind.i64 0, Value.int IntKind.i64 0, Value.slice none 0 0]))),
          SOper.mk none none (SOp.store 4 (Operand.tmp 9) (Operand.tmp 30)),
          SOper.mk (some 10) none (SOp.mv (Operand.tmp 31))]
        [0, 1, 2, 3, 9, 10])
      (Stmt.seq
        (Stmt.region
          [SOper.mk (some 32) none (SOp.mv (Operand.tmp 10)),
            SOper.mk (some 33) none (SOp.ibin BinOp.neq (Operand.tmp 32) (Operand.const (Value.int IntKind.i64 0))),
            SOper.mk (some 34) none (SOp.mv (Operand.tmp 33)),
            SOper.mk (some 35) (some (34, false)) (SOp.fld 3 (Operand.tmp 9)),
            SOper.mk (some 36) (some (34, false)) (SOp.load false 1 (Operand.tmp 35)),
            SOper.mk (some 37) (some (34, false)) (SOp.len false (Operand.tmp 36)),
            SOper.mk (some 38) (some (34, false))
              (SOp.ibin BinOp.neq (Operand.tmp 37) (Operand.const (Value.int IntKind.i64 1))),
            SOper.mk (some 39) none (SOp.pick (Operand.tmp 34) (Operand.const (Value.bool true)) (Operand.tmp 38)),
            SOper.mk (some 40) none (SOp.mv (Operand.tmp 39)),
            SOper.mk (some 41) (some (40, false)) (SOp.fld 3 (Operand.tmp 9)),
            SOper.mk (some 42) (some (40, false)) (SOp.load false 1 (Operand.tmp 41)),
            SOper.mk (some 43) (some (40, false))
              (SOp.idx 2 (Operand.tmp 42) (Operand.const (Value.int IntKind.i64 0))),
            SOper.mk (some 44) (some (40, false)) (SOp.fld 1 (Operand.tmp 43)),
            SOper.mk (some 45) (some (40, false)) (SOp.load false 1 (Operand.tmp 44)),
            SOper.mk (some 46) (some (40, false)) (SOp.len false (Operand.tmp 45)),
            SOper.mk (some 47) (some (40, false))
              (SOp.ibin BinOp.neq (Operand.tmp 46) (Operand.const (Value.int IntKind.i64 1))),
            SOper.mk (some 48) none (SOp.pick (Operand.tmp 40) (Operand.const (Value.bool true)) (Operand.tmp 47))]
          [0, 1, 2, 3, 48])
        (Stmt.cond (Operand.tmp 48)
          (Stmt.seq (Stmt.region [SOper.mk (some 8) none (SOp.mv (Operand.const (Value.bool false)))] [8]) Stmt.ret)
          Stmt.skip)))
    (Stmt.seq
      (Stmt.region
        [SOper.mk (some 50) none (SOp.mv (Operand.tmp 0)), SOper.mk (some 51) none (SOp.mv (Operand.tmp 1)),
          SOper.mk (some 52) none (SOp.mv (Operand.tmp 2)), SOper.mk (some 53) none (SOp.mv (Operand.tmp 3)),
          SOper.mk (some 54) none
            (SOp.call (Operand.func 57) [Operand.tmp 50, Operand.tmp 51, Operand.tmp 52, Operand.tmp 53]),
          SOper.mk (some 49) none (SOp.mv (Operand.tmp 54)), SOper.mk (some 55) none (SOp.extract 0 (Operand.tmp 49)),
          SOper.mk (some 56) none (SOp.extract 1 (Operand.tmp 49)),
          SOper.mk (some 11) none
            (SOp.alloc true 57
              (Value.agg
                (Array.mk
                  [Value.int IntKind.i64 0, Value.int IntKind.i64 0, Value.int IntKind.i64 0, Value.slice none 0 0]))),
          SOper.mk none none (SOp.store 4 (Operand.tmp 11) (Operand.tmp 55)),
          SOper.mk (some 12) none (SOp.mv (Operand.tmp 56))]
        [0, 1, 2, 3, 11, 12])
      (Stmt.seq
        (Stmt.region [SOper.mk (some 13) none (SOp.mv (Operand.const (Value.int IntKind.i64 0)))]
          [0, 1, 2, 3, 11, 12, 13])
        (Stmt.join S12_1 S12_13 [13] [0, 1, 2, 3, 11, 12]))))
def S12 : FnS := ⟨217, [(8, none)], S12_0⟩
theorem tr12 : trFn Try.prog 12 [9, 11, 22] [[0, 1, 2, 3], [0, 1, 2, 3, 9, 10], [0, 1, 2, 3, 48], [8], [0, 1, 2, 3, 11, 12], [0, 1, 2, 3, 11, 12, 13], [13], [0, 1, 2, 3, 11, 12], [0, 1, 2, 3, 11, 12, 13, 70], [0, 1, 2, 3, 11, 12, 13], [0, 1, 2, 3, 11, 12, 13, 78], [0, 1, 2, 3, 11, 12, 13], [0, 1, 2, 3, 11, 12, 13, 82, 83, 84], [13, 84], [0, 1, 2, 3, 11, 12, 82, 83], [0, 1, 2, 3, 11, 12, 13, 82, 83, 84, 85], [13], [0, 1, 2, 3, 11, 12, 82, 83, 84], [0, 1, 2, 3, 11, 12, 13, 15, 82, 83, 84], [13], [0, 1, 2, 3, 11, 12, 15, 82, 83, 84], [0, 1, 2, 3, 11, 12, 13, 15, 82, 83, 84, 94], [0, 1, 2, 3, 11, 12, 13, 15, 82, 83, 84], [0, 1, 2, 3, 11, 12, 13, 82, 83, 84, 95, 96, 97], [13, 97], [0, 1, 2, 3, 11, 12, 82, 83, 84, 95, 96], [0, 1, 2, 3, 11, 12, 13, 82, 83, 84, 95, 96, 97, 98], [13], [0, 1, 2, 3, 11, 12, 82, 83, 84, 95, 96, 97], [0, 1, 2, 3, 11, 12, 13, 17, 82, 83, 84, 95, 96, 97], [0, 1, 2, 3, 11, 12, 13, 82, 83, 84, 95, 96, 97, 111], [0, 1, 2, 3, 11, 12, 13, 82, 83, 84, 95, 96, 97], [0, 1, 2, 3, 11, 12, 13, 82, 83, 84, 95, 96, 97], [0, 1, 2, 3, 11, 12, 13, 82, 83, 84], [0, 1, 2, 3, 11, 12, 13, 114, 115, 116], [13, 116], [0, 1, 2, 3, 11, 12, 114, 115], [0, 1, 2, 3, 11, 12, 13, 114, 115, 116, 117], [13], [0, 1, 2, 3, 11, 12, 114, 115, 116], [0, 1, 2, 3, 11, 12, 13, 19, 114, 115, 116], [0, 1, 2, 3, 11, 12, 13, 114, 115, 116, 126], [0, 1, 2, 3, 11, 12, 13, 114, 115, 116], [0, 1, 2, 3, 11, 12, 13, 114, 115, 116], [0, 1, 2, 3, 11, 12, 13, 129], [8], [0, 1, 2, 3, 11, 12, 154], [8], [0, 1, 2, 3, 11, 12, 20], [0, 1, 11, 12, 22, 23], [0, 1, 11, 12, 22, 183], [8], [8]] = some S12 := by kernel_rfl
end Go.Proofs.Ytniobbepliknmaa.V
/- The law parllaw5.GuessTells; no condition. -/
namespace Go.Proofs.Ytniobbepliknmaa.V
open Go
set_option linter.unusedVariables false
set_option linter.unusedSimpArgs false
attribute [local go_sem] e_seq e_region e_quiet e_join e_loop e_cond e_block e_exit e_ret e_skip e_fin e_kseq e_snrm e_sret e_sex e_bnrm e_bret e_bex e_rnrm e_rret e_res e_condC e_nil e_g e_mv g_mv e_pick g_pick pickC_eq e_ibin g_ibin ibinC_eq e_sbin g_sbin e_beq g_beq beqC_eq e_nilq g_nilq nilqC_sl nilqC_pt nilqC_mp e_un g_un unC_not unC_neg e_conv g_conv convC_eq e_fld g_fld fldC_ref fldC_ptr e_nilCheck g_nilCheck nilCheckC_ref nilCheckC_ptr nilCheckC_fun e_field g_field fieldC_eq e_len g_len lenC_sl lenC_str e_extract g_extract extractC_eq e_mkFunc e_build g_build e_idiv g_idiv idivC_eq e_ishift g_ishift ishiftC_eq e_idx g_idx e_idxA g_idxA e_load g_load loadC_ref loadC_ptr loadB_eq e_slc g_slc e_box boxC_loc boxC_esc e_alloc allocC_loc allocC_esc e_buildS e_store storeC_ref storeC_ptr storeB_eq e_append e_appz e_mk mkC_eq e_call callC_eq e_fn g_fn fnC_eq fnV_min' fnV_max' fnV_rune' e_q g_q e_a e_n g_call g_box g_alloc g_buildS g_store g_append g_mk g_a g_n g_dead e_dead e_callK e_drawn e_tree e_finJ e_tk e_tfin e_tno e_nbt_q e_nbt_qn e_nbt_a e_nbt_an e_nbt_fin e_early_nil e_early_t e_early_f e_nob_nil e_nob_none e_nob_some isBox_dead isBox_v isBox_ref e_dnil e_dk e_ek e_finB vcOps_vc1 e_dcons e_tq e_ekt e_tearly e_talt e_dearly look_nil look_c proj_nil proj_c looks_nil looks_c zip_nil zip_c val_tmp val_const val_func slv_v slv_box slv_ref slot_tmp slot_const slot_func slotL_v slotL_box slotL_ref put_some put_none updBox_c boxSet_box gd_eq slotVals_nil slotVals_c slotVals_b boxV_box boxOn_box slotsOn_nil slotsOn_c slotsOn_b resV_one resV_two vals_nil vals_c allOn_nil allOn_c partOn_nil partOn_c partVals_nil partVals_c fits_nil fits_c fillL_nil fillL_c mkv_one mkv_agg cellsV_agg cellsV_int cellsV_bool cellsV_slice cellsV_string cellsV_pointer cellsV_func cellsV_nilf cellsV_map one'_nil one'_c oc_int oc_bool oc_slice oc_string oc_pointer oc_func oc_nilf oc_map setC_eq iv_add iv_sub iv_mul iv_eql iv_neq iv_lss iv_leq iv_gtr iv_geq iok_add iok_sub iok_mul iok_eql iok_neq iok_lss iok_leq iok_gtr iok_geq pickV_bool args0_nil args0_c bnd_none bnd_some imp_bt imp_bf imp_ebt imp_ebf imp_eb1 imp_np imp_pp beq_tt beq_tf beq_ft beq_ff cond_or cond_and e_round e_meet Int.le_refl Int.toNat_zero decide_true decide_false Bool.or_false Bool.false_or Bool.true_or Bool.or_true Bool.and_false Bool.false_and Bool.bne_false Bool.bne_true beq_iff_eq Int.cast_ofNat_Int not_false_eq_true not_true_eq_false false_and and_false false_implies true_implies true_and and_true Bool.true_and Bool.and_true Bool.not_true Bool.not_false forall_const implies_true List.take_zero List.drop_zero List.take_succ_cons List.drop_succ_cons List.take_nil List.drop_nil List.length_cons List.length_nil List.nil_append List.append_nil List.cons_append Int.toNat_natCast decide_eq_true_eq decide_eq_false_iff_not cond_true cond_false and_self List.getElem?_cons_zero List.getElem?_cons_succ List.set_cons_zero List.set_cons_succ Option.some.injEq exists_eq_left' Nat.zero_add Nat.add_zero Nat.mul_one imp_self true_or or_true or_false false_or Bool.or_eq_true Bool.or_eq_false_iff Bool.and_eq_true Bool.and_eq_false_iff Bool.not_eq_true' Bool.not_eq_false'

theorem g_mkFunc {P : Program} {Γr : Ctx} {d : Option Nat} {r : List SOper} {φ : Fr} {Γ : Ctx} {K : Fr → Ctx → Prop} {e : Bool} {fn : FuncId} {caps : List Operand} : gC P Γr d r φ Γ K (some e) (.mkFunc fn caps) = (allOn φ e caps ∧ vcOps P Γr r (put φ d (.v e (.func (.func fn) #[] (vals φ caps).toArray))) Γ K) := rfl
attribute [local go_sem] g_mkFunc
/-! the one rule that derives only the word 0 -/
theorem agr_one : LeastAt (rulesF 1 1).length 3 (fun c => Agr [[0]] [[]] (subR (rulesF 1 1) c)) [1] := by
  have e1 : subR (rulesF 1 1) [1] = [⟨0, [⟨true, 0⟩]⟩] := by decide
  have e0 : subR (rulesF 1 1) [0] = [⟨0, []⟩] := by decide
  refine ⟨val_one.2 ⟨by omega, by decide⟩, by simp, ?_, ?_, ?_⟩
  · show Agr _ _ _
    rw [e1]
    refine ⟨fun w hw => ?_, fun w hw => ?_⟩
    · simp at hw
      subst hw
      exact ⟨_, List.mem_singleton_self _, rfl, .term 0 .nil⟩
    · simp at hw
      subst hw
      rintro ⟨r, hr, _, hd⟩
      simp at hr
      subst hr
      cases hd
  · intro d hd hl
    have : d = [] := List.length_eq_zero_iff.1 (by simpa using hl)
    subst this
    rintro ⟨h1, _⟩
    obtain ⟨r, hr, _⟩ := h1 [0] (by simp)
    simp [subR] at hr
  · intro d hd hl hlt
    match d, hl with
    | [x], _ =>
      rcases ltL_cons.1 hlt with h | ⟨_, h⟩
      · have : x = 0 := by have := (val_one.1 hd).1; omega
        subst this
        show ¬ Agr _ _ _
        rw [e0]
        rintro ⟨_, h2⟩
        exact h2 [] (by simp) ⟨_, List.mem_singleton_self _, rfl, .nil⟩
      · exact absurd h ltL_nil
theorem agr_one_sub {c : List Int} (h : LeastAt (rulesF (1 : Int).toNat (1 : Int).toNat).length 3 (fun c => Agr [[0]] [[]] (subR (rulesF (1 : Int).toNat (1 : Int).toNat) c)) c) : subR (rulesF (1 : Int).toNat (1 : Int).toNat) c = [⟨0, [⟨true, 0⟩]⟩] := by
  rw [h.uniq agr_one]
  decide
/-- the first error that the law itself finds -/
def lfF (t n : Int) (yes no : List (List Int)) : Int := if badTN t n then 1 else if 6 < yes.length ∨ 6 < no.length then 2 else 0
def lgF (t n : Int) (yes no : List (List Int)) : Int := if lfF t n yes no ≠ 0 then lfF t n yes no else wF t (yes ++ no)
theorem geF_eq {t n : Int} {yes no : List (List Int)} : geF t n yes no = if lgF t n yes no ≠ 0 then lgF t n yes no else if no.any (fun w => yes.any fun v => decide (v = w)) then 8 else 0 := by
  unfold geF gcF lgF lfF
  by_cases h1 : badTN t n
  · simp [h1]
  by_cases h2 : 6 < yes.length ∨ 6 < no.length
  · simp [h1, h2]
  simp only [if_neg h1, if_neg h2, ne_eq, not_true_eq_false, if_false]
theorem guess_form {t n : Int} {yes no : List (List Int)} {v : Value} {Γ : Ctx} (h : GuessS t n yes no v Γ) : ∃ (tt nn : Int) (A : Option Addr) (c : Nat) (e : Int) (rs : List Ru), v = .tuple #[.agg #[.int .i64 tt, .int .i64 nn, .int .i64 0, .slice A rs.length c], .int .i64 e] ∧ SlOk (lk Γ) A c rs ∧ (geF t n yes no ≠ 0 → nn = 0 ∧ rs = [] ∧ e = geF t n yes no) ∧
    (geF t n yes no = 0 → (e = 5 ∧ nn = 0 ∧ ∀ c, Val (rulesF t.toNat n.toNat).length c → c.length ≤ 3 → ¬ Agr yes no (subR (rulesF t.toNat n.toNat) c)) ∨ (e = 0 ∧ tt = t ∧ nn = n ∧ ∃ c, LeastAt (rulesF t.toNat n.toNat).length 3 (fun c => Agr yes no (subR (rulesF t.toNat n.toNat) c)) c ∧ rs = subR (rulesF t.toNat n.toNat) c)) := by
  rcases h with ⟨h1, rfl, rfl⟩ | ⟨h1, h2, rfl, rfl⟩ | ⟨h1, go, gl, A, d, c, h2, rfl, h3, rfl⟩
  · exact ⟨0, 0, none, 0, _, [], rfl, SlOk.nil, fun _ => ⟨rfl, rfl, rfl⟩, fun h => absurd h h1⟩
  · exact ⟨0, 0, none, 0, _, [], rfl, SlOk.nil, fun h => absurd h1 h, fun _ => .inl ⟨rfl, rfl, h2⟩⟩
  · exact ⟨_, _, A, d, _, _, by rw [subR_len], h3, fun h => absurd h1 h, fun _ => .inr ⟨rfl, rfl, rfl, c, h2, rfl⟩⟩
set_option maxHeartbeats 8000000 in
theorem law_guess {Γr : Ctx} (t n : Int) {Y Z : Option Addr} {d e : Nat} {yes no : List (List Int)} (hy : SlOk (lk Γr) Y d yes) (hn : SlOk (lk Γr) Z e no) (hb : yes.length + no.length ≤ 1048576) :
    Ret Try.prog 12 [.int .i64 t, .int .i64 n, .slice Y yes.length d, .slice Z no.length e] Γr [] (fun v Γ => Γ = [] ∧ v = .bool true) := by
  generalize hR : (fun v Γ => Γ = [] ∧ v = _) = R
  refine ret_of_vc tr12 (Nat.le_of_ble_eq_true rfl) ?_
  simp -implicitDefEqProofs only [S12, S12_0, go_sem, Nat.reduceBEq, Nat.reduceAdd, Nat.reduceSub, Nat.reduceMul, Nat.reduceLeDiff, reduceCtorEq, ↓reduceIte, Int.reduceLT, Int.reduceLE, Int.reduceEq, Int.reduceNe]
  intro b0 b1 b2 b3
  have l0 : SlOk (lk [one b0 (.cells [Value.int .i64 0].toArray 3)]) (some ⟨b0, 0, none⟩) 1 [(0 : Int)] := lit_slok [(0 : Int)] rfl (by simp)
  have l1 : ∀ L, Mem.le (lk [one b1 (.cells [Value.slice (some ⟨b0, 0, none⟩) 1 1].toArray 29), one b0 (.cells [Value.int .i64 0].toArray 3)]) L → SlOk L (some ⟨b1, 0, none⟩) 1 [[(0 : Int)]] := fun L h =>
    lit_rep1 (cs := [Value.slice (some ⟨b0, 0, none⟩) 1 1]) [(0 : Int)] (h _ _ lk_head) ⟨_, _, rfl, l0.mono ((lk_sub (by simp)).trans h)⟩
  have l2 : ∀ L, SlOk (α := Int) L (some ⟨b2, 0, none⟩) 0 [] := fun L => ⟨by simp, by simp [maxLen], by simp, .inl rfl⟩
  have l3 : ∀ L, Mem.le (lk [one b3 (.cells [Value.slice (some ⟨b2, 0, none⟩) 0 0].toArray 29)]) L → SlOk L (some ⟨b3, 0, none⟩) 1 [([] : List Int)] := fun L h =>
    lit_rep1 (cs := [Value.slice (some ⟨b2, 0, none⟩) 0 0]) ([] : List Int) (h _ _ lk_head) ⟨_, _, rfl, l2 _⟩
  refine CallVC.read (guess_of 1 1 (yes := [[0]]) (no := [[]]) (l1 _ (lk_sub fun x hx => by simp at hx ⊢; rcases hx with h | h <;> simp [h])) (l3 _ (lk_sub fun x hx => by simp at hx ⊢; simp [hx]))) ?_
  rintro v Γ1 hG
  obtain ⟨t1, n1, A1, c1, e1, rs1, rfl, hs1, hf1, hf2⟩ := guess_form hG
  have hz : geF 1 1 [[0]] [[]] = 0 := by decide
  obtain ⟨rfl, rfl⟩ : e1 = 0 ∧ rs1 = [⟨0, [⟨true, 0⟩]⟩] := by
    rcases hf2 hz with ⟨_, _, h⟩ | ⟨h1, _, _, c, h2, rfl⟩
    · exact absurd agr_one.2.2.1 (h [1] agr_one.1 (by simp))
    · exact ⟨h1, agr_one_sub h2⟩
  clear hf1 hf2 hG
  simp -implicitDefEqProofs only [go_sem, Nat.reduceBEq, Nat.reduceAdd, Nat.reduceSub, Nat.reduceMul, Nat.reduceLeDiff, reduceCtorEq, ↓reduceIte, Int.reduceLT, Int.reduceLE, Int.reduceEq, Int.reduceNe]
  intro b4
  obtain ⟨bq, oq, hA1, A2, c2, hs2, hc1⟩ := hs1.ru (i := 0) (by simp)
  refine s_idx hA1 (by omega) (by omega) ?_
  simp -implicitDefEqProofs only [go_sem, Nat.reduceBEq, Nat.reduceAdd, Nat.reduceSub, Nat.reduceMul, Nat.reduceLeDiff, reduceCtorEq, ↓reduceIte, Int.reduceLT, Int.reduceLE, Int.reduceEq, Int.reduceNe]
  refine s_ld (j := 1) (hc1 _ (lk_sub fun x hx => by simp [hx])) (by simp) (by simp) ?_
  simp -implicitDefEqProofs only [go_sem, Nat.reduceBEq, Nat.reduceAdd, Nat.reduceSub, Nat.reduceMul, Nat.reduceLeDiff, reduceCtorEq, ↓reduceIte, Int.reduceLT, Int.reduceLE, Int.reduceEq, Int.reduceNe]
  clear l0 l1 l2 l3 hs1 hs2 hc1
  refine ⟨fun h => absurd rfl h, fun _ => ?_⟩
  refine CallVC.read (guess_of t n (hy.mono (lk_r _ _)) (hn.mono (lk_r _ _))) ?_
  rintro v Γ2 hG
  obtain ⟨tt, nn, A3, c3, e3, rs, rfl, hs3, hf1, hf2⟩ := guess_form hG
  clear hG
  simp -implicitDefEqProofs only [go_sem, Nat.reduceBEq, Nat.reduceAdd, Nat.reduceSub, Nat.reduceMul, Nat.reduceLeDiff, reduceCtorEq, ↓reduceIte, Int.reduceLT, Int.reduceLE, Int.reduceEq, Int.reduceNe]
  intro b5
  obtain ⟨f0, hf0⟩ : ∃ f0, f0 = lfF t n yes no := ⟨_, rfl⟩
  refine s_join (fun vs Γ => ∃ gq, Γ = [gq] ∧ Mem.le (lk Γ2) (lk [gq]) ∧ vs = [.v true (.int .i64 f0)]) ?_ ?_
  · have hfin : ∀ {Γ}, (∀ x ∈ Γ2, x ∈ Γ) → ∀ f, f0 = f → Up Γ (fun Γ => ∃ gq, Γ = [gq] ∧ Mem.le (lk Γ2) (lk [gq]) ∧ [Sl.v true (Value.int IntKind.i64 f)] = [.v true (.int .i64 f0)]) := fun hs f hf => Up.one fun gq hq => ⟨gq, rfl, (lk_sub hs).trans hq, by rw [hf]⟩
    simp -implicitDefEqProofs only [S12_1, go_sem, Nat.reduceBEq, Nat.reduceAdd, Nat.reduceSub, Nat.reduceMul, Nat.reduceLeDiff, reduceCtorEq, ↓reduceIte, Int.reduceLT, Int.reduceLE, Int.reduceEq, Int.reduceNe]
    refine ⟨fun h => hfin (fun x hx => by simp [hx]) _ (by rw [hf0, lfF, if_pos (by unfold badTN; omega)]), fun h => ?_⟩
    have hb' : ¬ badTN t n := by unfold badTN; omega
    exact ⟨fun h6 => hfin (fun x hx => by simp [hx]) _ (by rw [hf0, lfF, if_neg hb', if_pos (by omega)]), fun h6 => hfin (fun x hx => by simp [hx]) _ (by rw [hf0, lfF, if_neg hb', if_neg (by omega)])⟩
  rintro vs Γ3 ⟨gq, rfl, hgq, rfl⟩
  simp -implicitDefEqProofs only [S12_13, go_sem, Nat.reduceBEq, Nat.reduceAdd, Nat.reduceSub, Nat.reduceMul, Nat.reduceLeDiff, reduceCtorEq, ↓reduceIte, Int.reduceLT, Int.reduceLE, Int.reduceEq, Int.reduceNe]
  intro b6
  have hlit : SlOk (lk (one b6 (.cells [Value.slice Y yes.length d, Value.slice Z no.length e].toArray 65) :: gq :: Γr)) (some ⟨b6, 0, none⟩) 2 [yes, no] :=
    lit_rep2 (cs := [Value.slice Y yes.length d]) (ds := [Value.slice Z no.length e]) yes no lk_head rfl ⟨_, _, rfl, hy.mono (lk_sub fun x hx => by simp [hx])⟩ ⟨_, _, rfl, hn.mono (lk_sub fun x hx => by simp [hx])⟩
  have hfl : [yes, no].flatten = yes ++ no := by simp
  refine CallVC.read (concat_words (xss := [yes, no]) hlit (by rw [hfl, List.length_append]; omega) (by simp)) ?_
  rintro v Γ3 ⟨gc, rfl, hB⟩
  rw [hfl] at hB
  obtain ⟨A4, c4, rfl, hs4⟩ := hB.slok (L' := lk ([gc, one b6 (.cells [Value.slice Y yes.length d, Value.slice Z no.length e].toArray 65), gq] ++ Γr)) (lk_sub (by simp)) (lk_sub fun x hx => by simp at hx ⊢; rcases hx with h | h | h <;> simp [h]) (by rw [List.length_append]; omega)
  clear hB hlit
  obtain ⟨ws, hws⟩ : ∃ ws, yes ++ no = ws := ⟨_, rfl⟩
  rw [hws] at hs4 ⊢
  have hwl : ws.length ≤ 1048576 := by rw [← hws, List.length_append]; omega
  simp -implicitDefEqProofs only [go_sem, Nat.reduceBEq, Nat.reduceAdd, Nat.reduceSub, Nat.reduceMul, Nat.reduceLeDiff, reduceCtorEq, ↓reduceIte, Int.reduceLT, Int.reduceLE, Int.reduceEq, Int.reduceNe]
  generalize one b6 _ = g6 at *
  obtain ⟨T, hT⟩ : ∃ T : Int, T = if f0 ≠ 0 then f0 else wF t ws := ⟨_, rfl⟩
  have hTl : T = lgF t n yes no := by rw [hT, hf0, lgF, hws]
  have hT0 : f0 = 0 → T = wF t ws := fun h => by rw [hT, if_neg (by simpa using h)]
  have hT1 : f0 ≠ 0 → T = f0 := fun h => by rw [hT, if_pos h]
  refine s_loop (fun f vs Γ => Γ = [gc, g6, gq] ∧ ∃ (F : Int) (k : Nat), vs = [.v true (.int .i64 F), .v true (.int .i64 k)] ∧ k + f = ws.length ∧ (F ≠ 0 → T = F) ∧ (F = 0 → f0 = 0 ∧ wF t ws = wF t (ws.drop k))) ws.length (Up.here ⟨rfl, f0, 0, rfl, by omega, hT1, fun h => ⟨h, by simp⟩⟩) ?_
  rintro f vs Γ ⟨rfl, F, k, rfl, hkf, hF1, hF2⟩
  simp -implicitDefEqProofs only [S12_9, go_sem, Nat.reduceBEq, Nat.reduceAdd, Nat.reduceSub, Nat.reduceMul, Nat.reduceLeDiff, reduceCtorEq, ↓reduceIte, Int.reduceLT, Int.reduceLE, Int.reduceEq, Int.reduceNe]
  refine ⟨fun hlt => ?_, fun hge => ?_⟩
  · have hk : k < ws.length := by omega
    have hdr := wF_drop (t := t) hk
    obtain ⟨bw, ow, hA4, A5, c5, hs5, hc5⟩ := hs4.list hk
    have hsh := hs5.short
    generalize ws[k] = w at *
    refine s_join (fun vs Γ => Γ = [gc, g6, gq] ∧ ∃ F : Int, vs = [.v true (.int .i64 F)] ∧ (F ≠ 0 → T = F) ∧ (F = 0 → f0 = 0 ∧ wF t ws = wF t (ws.drop (k + 1)))) ?_ ?_
    · simp -implicitDefEqProofs only [S12_7, go_sem, Nat.reduceBEq, Nat.reduceAdd, Nat.reduceSub, Nat.reduceMul, Nat.reduceLeDiff, reduceCtorEq, ↓reduceIte, Int.reduceLT, Int.reduceLE, Int.reduceEq, Int.reduceNe]
      refine s_idx hA4 (by omega) (by omega) ?_
      simp -implicitDefEqProofs only [go_sem, Nat.reduceBEq, Nat.reduceAdd, Nat.reduceSub, Nat.reduceMul, Nat.reduceLeDiff, reduceCtorEq, ↓reduceIte, Int.reduceLT, Int.reduceLE, Int.reduceEq, Int.reduceNe]
      refine s_ld0 (hc5 _ (lk_sub (by simp))) (by simp) (by simp) ?_
      simp -implicitDefEqProofs only [go_sem, Nat.reduceBEq, Nat.reduceAdd, Nat.reduceSub, Nat.reduceMul, Nat.reduceLeDiff, reduceCtorEq, ↓reduceIte, Int.reduceLT, Int.reduceLE, Int.reduceEq, Int.reduceNe]
      refine s_join (fun vs Γ => Γ = [gc, g6, gq] ∧ ∃ F : Int, vs = [.v true (.int .i64 F)] ∧ (F ≠ 0 → T = F) ∧ (F = 0 → f0 = 0 ∧ wF t ws = if w.any (badW t) then 1 else wF t (ws.drop (k + 1)))) ?_ ?_
      · simp -implicitDefEqProofs only [S12_2, go_sem, Nat.reduceBEq, Nat.reduceAdd, Nat.reduceSub, Nat.reduceMul, Nat.reduceLeDiff, reduceCtorEq, ↓reduceIte, Int.reduceLT, Int.reduceLE, Int.reduceEq, Int.reduceNe]
        refine ⟨fun h => Up.here ⟨rfl, 2, rfl, fun _ => ?_, fun q => absurd q (by decide)⟩, fun h => Up.here ⟨rfl, F, rfl, hF1, fun q => ⟨(hF2 q).1, ?_⟩⟩⟩
        · rw [hT0 (hF2 h.1).1, (hF2 h.1).2, hdr, if_pos (by omega)]
        · rw [(hF2 q).2, hdr, if_neg (by omega)]
      · rintro vs Γ ⟨rfl, F, rfl, hG1, hG2⟩
        simp -implicitDefEqProofs only [S12_6, go_sem, Nat.reduceBEq, Nat.reduceAdd, Nat.reduceSub, Nat.reduceMul, Nat.reduceLeDiff, reduceCtorEq, ↓reduceIte, Int.reduceLT, Int.reduceLE, Int.reduceEq, Int.reduceNe]
        refine s_loop (fun f vs Γ => Γ = [gc, g6, gq] ∧ ∃ (F : Int) (j : Nat), vs = [.v true (.int .i64 F), .v true (.int .i64 j)] ∧ j + f = w.length ∧ (F ≠ 0 → T = F) ∧ (F = 0 → f0 = 0 ∧ (wF t ws = if w.any (badW t) then 1 else wF t (ws.drop (k + 1))) ∧ ∀ x ∈ w.take j, badW t x = false)) w.length (Up.here ⟨rfl, F, 0, rfl, by omega, hG1, fun h => ⟨(hG2 h).1, (hG2 h).2, by simp⟩⟩) ?_
        rintro f vs Γ ⟨rfl, F, j, rfl, hjf, hH1, hH2⟩
        simp -implicitDefEqProofs only [S12_5, go_sem, Nat.reduceBEq, Nat.reduceAdd, Nat.reduceSub, Nat.reduceMul, Nat.reduceLeDiff, reduceCtorEq, ↓reduceIte, Int.reduceLT, Int.reduceLE, Int.reduceEq, Int.reduceNe]
        refine ⟨fun hlt => ?_, fun hge => ?_⟩
        · have hj : j < w.length := by omega
          obtain ⟨b7, o7, hA7, hc7⟩ := hs5.int hj
          have htk : w.take (j + 1) = w.take j ++ [w[j]] := List.take_succ_eq_append_getElem hj
          have hmem := List.getElem_mem hj
          generalize w[j] = y at *
          refine s_join (fun vs Γ => Γ = [gc, g6, gq] ∧ ∃ F : Int, vs = [.v true (.int .i64 F)] ∧ (F ≠ 0 → T = F) ∧ (F = 0 → f0 = 0 ∧ (wF t ws = if w.any (badW t) then 1 else wF t (ws.drop (k + 1))) ∧ ∀ x ∈ w.take (j + 1), badW t x = false)) ?_ ?_
          · simp -implicitDefEqProofs only [S12_3, go_sem, Nat.reduceBEq, Nat.reduceAdd, Nat.reduceSub, Nat.reduceMul, Nat.reduceLeDiff, reduceCtorEq, ↓reduceIte, Int.reduceLT, Int.reduceLE, Int.reduceEq, Int.reduceNe]
            refine s_idx hA7 (by omega) (by omega) ?_
            simp -implicitDefEqProofs only [go_sem, Nat.reduceBEq, Nat.reduceAdd, Nat.reduceSub, Nat.reduceMul, Nat.reduceLeDiff, reduceCtorEq, ↓reduceIte, Int.reduceLT, Int.reduceLE, Int.reduceEq, Int.reduceNe]
            refine s_ld0 (hc7 _ (lk_sub (by simp))) (by simp) (by simp) ?_
            simp -implicitDefEqProofs only [go_sem, Nat.reduceBEq, Nat.reduceAdd, Nat.reduceSub, Nat.reduceMul, Nat.reduceLeDiff, reduceCtorEq, ↓reduceIte, Int.reduceLT, Int.reduceLE, Int.reduceEq, Int.reduceNe]
            refine ⟨fun a b => ⟨a, b⟩, fun h => Up.here ⟨rfl, 1, rfl, fun _ => ?_, fun q => absurd q (by decide)⟩, fun h => Up.here ⟨rfl, F, rfl, hH1, fun q => ⟨(hH2 q).1, (hH2 q).2.1, fun x hx => ?_⟩⟩⟩
            · rw [hT0 (hH2 h.1).1, (hH2 h.1).2.1, if_pos (List.any_eq_true.2 ⟨y, hmem, by simpa [badW] using h.2⟩)]
            · rw [htk] at hx
              rcases List.mem_append.1 hx with hx | hx
              · exact (hH2 q).2.2 x hx
              · simp at hx
                subst hx
                simp only [badW, decide_eq_false_iff_not]
                omega
          · rintro vs Γ ⟨rfl, F, rfl, hG1, hG2⟩
            simp -implicitDefEqProofs only [S12_4, go_sem, Nat.reduceBEq, Nat.reduceAdd, Nat.reduceSub, Nat.reduceMul, Nat.reduceLeDiff, reduceCtorEq, ↓reduceIte, Int.reduceLT, Int.reduceLE, Int.reduceEq, Int.reduceNe]
            simp (disch := omega) only [wrap_id]
            exact ⟨f - 1, by omega, Up.here ⟨rfl, F, j + 1, rfl, by omega, hG1, hG2⟩⟩
        · have hj : j = w.length := by omega
          refine Up.here ⟨rfl, F, rfl, hH1, fun q => ⟨(hH2 q).1, ?_⟩⟩
          obtain ⟨_, q2, q3⟩ := hH2 q
          rw [hj, List.take_length] at q3
          rw [q2, if_neg (by simpa using q3)]
    · rintro vs Γ ⟨rfl, F, rfl, hG1, hG2⟩
      simp -implicitDefEqProofs only [S12_8, go_sem, Nat.reduceBEq, Nat.reduceAdd, Nat.reduceSub, Nat.reduceMul, Nat.reduceLeDiff, reduceCtorEq, ↓reduceIte, Int.reduceLT, Int.reduceLE, Int.reduceEq, Int.reduceNe]
      simp (disch := omega) only [wrap_id]
      exact ⟨f - 1, by omega, Up.here ⟨rfl, F, k + 1, rfl, by omega, hG1, hG2⟩⟩
  have hk : k = ws.length := by omega
  have hFT : F = T := by
    by_cases h : F = 0
    · rw [h, hT0 (hF2 h).1, (hF2 h).2, hk, List.drop_length]; rfl
    · exact (hF1 h).symm
  clear hF1 hF2
  subst hFT
  refine s_loop (fun f vs Γ => ∃ gj, Γ = [gj] ∧ Mem.le (lk [gq]) (lk [gj]) ∧ ∃ (G : Int) (k : Nat), vs = [.v true (.int .i64 G), .v true (.int .i64 k)] ∧ k + f = no.length ∧ (G ≠ 0 → geF t n yes no = G) ∧ (G = 0 → F = 0 ∧ ∀ w ∈ no.take k, yes.any (fun v => decide (v = w)) = false)) no.length (Up.one fun gj hj => ⟨gj, rfl, (lk_sub (by simp)).trans hj, F, 0, rfl, by omega, fun h => by rw [geF_eq, ← hTl, if_pos h], fun h => ⟨h, by simp⟩⟩) ?_
  rintro f vs Γ ⟨gj, rfl, hgj, G, k, rfl, hkf, hG1, hG2⟩
  simp -implicitDefEqProofs only [S12_12, go_sem, Nat.reduceBEq, Nat.reduceAdd, Nat.reduceSub, Nat.reduceMul, Nat.reduceLeDiff, reduceCtorEq, ↓reduceIte, Int.reduceLT, Int.reduceLE, Int.reduceEq, Int.reduceNe]
  refine ⟨fun hlt => ?_, fun hge => ?_⟩
  · have hk : k < no.length := by omega
    obtain ⟨b8, o8, hA8, A6, c6, hs6, hc8⟩ := hn.list hk
    have htk : no.take (k + 1) = no.take k ++ [no[k]] := List.take_succ_eq_append_getElem hk
    have hmem := List.getElem_mem hk
    generalize no[k] = w at *
    refine s_join (fun vs Γ => ∃ gj, Γ = [gj] ∧ Mem.le (lk [gq]) (lk [gj]) ∧ ∃ G : Int, vs = [.v true (.int .i64 G)] ∧ (G ≠ 0 → geF t n yes no = G) ∧ (G = 0 → F = 0 ∧ ∀ w ∈ no.take (k + 1), yes.any (fun v => decide (v = w)) = false)) ?_ ?_
    · simp -implicitDefEqProofs only [S12_10, go_sem, Nat.reduceBEq, Nat.reduceAdd, Nat.reduceSub, Nat.reduceMul, Nat.reduceLeDiff, reduceCtorEq, ↓reduceIte, Int.reduceLT, Int.reduceLE, Int.reduceEq, Int.reduceNe]
      refine s_idx hA8 (by omega) (by omega) ?_
      simp -implicitDefEqProofs only [go_sem, Nat.reduceBEq, Nat.reduceAdd, Nat.reduceSub, Nat.reduceMul, Nat.reduceLeDiff, reduceCtorEq, ↓reduceIte, Int.reduceLT, Int.reduceLE, Int.reduceEq, Int.reduceNe]
      refine s_ld0 (hc8 _ (lk_r _ _)) (by simp) (by simp) ?_
      simp -implicitDefEqProofs only [go_sem, Nat.reduceBEq, Nat.reduceAdd, Nat.reduceSub, Nat.reduceMul, Nat.reduceLeDiff, reduceCtorEq, ↓reduceIte, Int.reduceLT, Int.reduceLE, Int.reduceEq, Int.reduceNe]
      intro b9
      refine s_storeV (ix := 0) (T := 29) (cs := [Value.slice none 0 0]) rfl (one_self _ _) rfl rfl ?_
      simp -implicitDefEqProofs only [go_sem, Nat.reduceBEq, Nat.reduceAdd, Nat.reduceSub, Nat.reduceMul, Nat.reduceLeDiff, reduceCtorEq, ↓reduceIte, Int.reduceLT, Int.reduceLE, Int.reduceEq, Int.reduceNe]
      generalize hg9 : upd (one b9 _) b9 _ = g9
      have hb9 : g9 b9 = some (.cells [Value.slice A6 w.length c6].toArray 29 (0, 0)) := by subst hg9; exact upd_self _ _ _
      have hfin : ∀ {Γ}, (∀ x ∈ [gj], x ∈ Γ) → ∀ H : Int, (H ≠ 0 → geF t n yes no = H) → (H = 0 → F = 0 ∧ ∀ w ∈ no.take (k + 1), yes.any (fun v => decide (v = w)) = false) → Up Γ (fun Γ => ∃ gj, Γ = [gj] ∧ Mem.le (lk [gq]) (lk [gj]) ∧ ∃ G : Int, [Sl.v true (.int .i64 H)] = [.v true (.int .i64 G)] ∧ (G ≠ 0 → geF t n yes no = G) ∧ (G = 0 → F = 0 ∧ ∀ w ∈ no.take (k + 1), yes.any (fun v => decide (v = w)) = false)) :=
        fun hs H h1 h2 => Up.one fun gj' hq => ⟨gj', rfl, (hgj.trans (lk_sub hs)).trans hq, H, rfl, h1, h2⟩
      by_cases hG : G = 0
      · obtain ⟨q1, q2⟩ := hG2 hG
        refine ⟨fun _ => ⟨hG, ?_⟩, fun h => by simp [hG] at h⟩
        have e1 : decide (G = 0) = true := decide_eq_true hG
        simp -implicitDefEqProofs only [e1, go_sem, Nat.reduceBEq, Nat.reduceAdd, Nat.reduceSub, Nat.reduceMul, Nat.reduceLeDiff, reduceCtorEq, ↓reduceIte, Int.reduceLT, Int.reduceLE, Int.reduceEq, Int.reduceNe]
        refine CallVC.read (containsFunc_words (Γr := g9 :: gj :: Γr) (hy.mono (lk_sub fun x hx => by simp [hx])) (word_eq1 (T := 29) ⟨g9, by simp, hb9⟩ (hs6.mono (lk_sub fun x hx => by simp [hx])))) ?_
        rintro v Γ4 ⟨rfl, rfl⟩
        simp -implicitDefEqProofs only [go_sem, Nat.reduceBEq, Nat.reduceAdd, Nat.reduceSub, Nat.reduceMul, Nat.reduceLeDiff, reduceCtorEq, ↓reduceIte, Int.reduceLT, Int.reduceLE, Int.reduceEq, Int.reduceNe]
        refine ⟨fun h => hfin (by simp) 8 (fun _ => ?_) (fun q => absurd q (by decide)), fun h => hfin (by simp) G (fun q => absurd hG q) (fun _ => ⟨q1, fun x hx => ?_⟩)⟩
        · rw [geF_eq, ← hTl, if_neg (by simpa using q1), if_pos]
          exact List.any_eq_true.2 ⟨w, hmem, h⟩
        · rw [htk] at hx
          rcases List.mem_append.1 hx with hx | hx
          · exact q2 x hx
          · simp at hx
            subst hx
            exact h
      · refine ⟨fun h => absurd h hG, fun _ => ⟨.bool false, fun h => hG h, ?_⟩⟩
        have e1 : decide (G = 0) = false := decide_eq_false hG
        simp -implicitDefEqProofs only [e1, go_sem, Nat.reduceBEq, Nat.reduceAdd, Nat.reduceSub, Nat.reduceMul, Nat.reduceLeDiff, reduceCtorEq, ↓reduceIte, Int.reduceLT, Int.reduceLE, Int.reduceEq, Int.reduceNe]
        exact hfin (by simp) G hG1 (fun q => absurd q hG)
    · rintro vs Γ ⟨gj, rfl, hgj, G, rfl, hG1, hG2⟩
      simp -implicitDefEqProofs only [S12_11, go_sem, Nat.reduceBEq, Nat.reduceAdd, Nat.reduceSub, Nat.reduceMul, Nat.reduceLeDiff, reduceCtorEq, ↓reduceIte, Int.reduceLT, Int.reduceLE, Int.reduceEq, Int.reduceNe]
      simp (disch := omega) only [wrap_id]
      exact ⟨f - 1, by omega, Up.here ⟨gj, rfl, hgj, G, k + 1, rfl, by omega, hG1, hG2⟩⟩
  have hk : k = no.length := by omega
  have hGe : G = geF t n yes no := by
    by_cases h : G = 0
    · obtain ⟨q1, q2⟩ := hG2 h
      rw [hk, List.take_length] at q2
      rw [geF_eq, ← hTl, if_neg (by simpa using q1), if_neg, h]
      intro q
      obtain ⟨w, h1, h2⟩ := List.any_eq_true.1 q
      rw [q2 w h1] at h2
      cases h2
    · exact (hG1 h).symm
  clear hG1 hG2
  refine ⟨fun hne => Up.to [] (Ent.nil _) ?_, fun hG0 => ?_⟩
  · obtain ⟨q1, q2, q3⟩ := hf1 (by rw [← hGe]; exact hne)
    subst hR
    refine ⟨rfl, ?_⟩
    rw [q2, q1, q3, hGe]
    simp
  have hg0 : geF t n yes no = 0 := by rw [← hGe]; exact hG0
  have hbt : ¬ badTN t n := fun h => by rw [geF, if_pos h] at hg0; cases hg0
  have htn : 1 ≤ t ∧ t ≤ 2 ∧ 1 ≤ n ∧ n ≤ 2 := by unfold badTN at hbt; omega
  have hwF : wF t (yes ++ no) = 0 := by
    rw [geF, if_neg hbt] at hg0
    unfold gcF at hg0
    split at hg0
    · cases hg0
    · split at hg0
      · rename_i q; exact absurd hg0 q
      · rename_i q; simpa using q
  have hwk := wF_ok hwF
  refine ⟨fun a b => ⟨a, b⟩, fun h => Up.to [] (Ent.nil _) ?_, fun h => ?_⟩
  · subst hR
    refine ⟨rfl, ?_⟩
    rcases hf2 hg0 with ⟨q, _, _⟩ | ⟨q, _, _, c, h2, q3⟩
    · simp [q]
    · have : rs.length ≤ 3 := by rw [q3, subR_len]; exact h2.2.1
      have : ((rs.length : Nat) : Int) ≤ 3 := by omega
      simp [q, this]
  refine CallVC.read (guess_rules t n) ?_
  rintro v Γ5 ⟨gr, A7, c7, rfl, hs7, rfl⟩
  have h1 : rulesR t n = (rulesF t.toNat n.toNat, 0) := by unfold rulesR; rw [if_neg hbt]
  rw [h1] at hs7 ⊢
  simp -implicitDefEqProofs only [go_sem, Nat.reduceBEq, Nat.reduceAdd, Nat.reduceSub, Nat.reduceMul, Nat.reduceLeDiff, reduceCtorEq, ↓reduceIte, Int.reduceLT, Int.reduceLE, Int.reduceEq, Int.reduceNe]
  refine CallVC.read (ref_guessed (R := rulesF t.toNat n.toNat) (hs7.mono (lk_sub fun x hx => by simp at hx; simp [hx])) (hy.mono (lk_r _ _)) (hn.mono (lk_r _ _)) htn rfl ?_ ?_ ?_) ?_
  · intro l hl
    refine few_words (t := t.toNat) (by omega) fun r hr s hs ht => ?_
    have := (rulesF_mem (hl r hr)).2.2 s hs
    exact ⟨this.1, this.2.1 ht⟩
  · intro w hw
    have := hwk w (List.mem_append_left _ hw)
    exact ⟨this.1, fun x hx => by have := this.2 x hx; omega⟩
  · intro w hw
    have := hwk w (List.mem_append_right _ hw)
    exact ⟨this.1, fun x hx => by have := this.2 x hx; omega⟩
  rintro v Γ6 (⟨q1, rfl, rfl⟩ | ⟨A8, d8, c, hl, hs8, rfl⟩)
  · simp -implicitDefEqProofs only [zeroG, go_sem, Nat.reduceBEq, Nat.reduceAdd, Nat.reduceSub, Nat.reduceMul, Nat.reduceLeDiff, reduceCtorEq, ↓reduceIte, Int.reduceLT, Int.reduceLE, Int.reduceEq, Int.reduceNe]
    refine Up.to [] (Ent.nil _) ?_
    subst hR
    refine ⟨rfl, ?_⟩
    rcases hf2 hg0 with ⟨q, q2, _⟩ | ⟨_, _, _, c, h2, _⟩
    · simp [q, q2]
    · exact absurd h2.2.2.1 (q1 c h2.1 h2.2.1)
  · obtain ⟨rfl, rfl, rfl, rfl⟩ : e3 = 0 ∧ tt = t ∧ nn = n ∧ rs = subR (rulesF t.toNat n.toNat) c := by
      rcases hf2 hg0 with ⟨_, _, q⟩ | ⟨q1, q2, q3, c', h2, q4⟩
      · exact absurd hl.2.2.1 (q c hl.1 hl.2.1)
      · exact ⟨q1, q2, q3, by rw [q4, h2.uniq hl]⟩
    simp -implicitDefEqProofs only [go_sem, Nat.reduceBEq, Nat.reduceAdd, Nat.reduceSub, Nat.reduceMul, Nat.reduceLeDiff, reduceCtorEq, ↓reduceIte, Int.reduceLT, Int.reduceLE, Int.reduceEq, Int.reduceNe]
    intro b
    have hm : Mem.le (lk Γ2) (lk (Γ6 ++ [gr, gj] ++ Γr)) := (hgq.trans hgj).trans (lk_sub fun x hx => by simp at hx; simp [hx])
    have hs9 := hs3.mono hm
    rw [← subR_len (rulesF tt.toNat nn.toNat) c] 
    refine CallVC.read (equalFunc_ru hs9 (hs8.mono (lk_sub fun x hx => by simp at hx ⊢; rcases hx with h | h | h | h <;> simp [h]))) ?_
    rintro v Γ7 ⟨rfl, rfl⟩
    simp -implicitDefEqProofs only [go_sem, Nat.reduceBEq, Nat.reduceAdd, Nat.reduceSub, Nat.reduceMul, Nat.reduceLeDiff, reduceCtorEq, ↓reduceIte, Int.reduceLT, Int.reduceLE, Int.reduceEq, Int.reduceNe]
    refine Up.to [] (Ent.nil _) ?_
    subst hR
    refine ⟨rfl, ?_⟩
    simp
end Go.Proofs.Ytniobbepliknmaa.V
