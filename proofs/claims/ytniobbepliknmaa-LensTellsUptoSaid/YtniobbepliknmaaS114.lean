/- The text of parlance/parlref5.lengthsOf as a statement (slots: 0 g, 1 n, 2 g, 3 n, 5 can, 6 seen, 7 all, 8 row, 9 add, 10 i, 11 x, 12 r, 13 _, 14 y, 15 q, 16 s, 17 k, 18 ok); no condition. -/
import Derived.Test.YtniobbepliknmaaVh
import Derived.Test.YtniobbepliknmaaProg
namespace Go.Proofs.Ytniobbepliknmaa.V
open Go
def S114_1 : Stmt :=
  Stmt.seq
  (Stmt.region [SOper.mk (some 30) none (SOp.ibin BinOp.lss (Operand.tmp 29) (Operand.tmp 28))]
    [2, 5, 7, 8, 9, 28, 29, 30])
  (Stmt.seq (Stmt.cond (Operand.tmp 30) Stmt.skip (Stmt.exit 0))
    (Stmt.seq
      (Stmt.block 1
        (Stmt.seq
          (Stmt.region
            [SOper.mk (some 31) none (SOp.mv (Operand.tmp 29)), SOper.mk (some 10) none (SOp.mv (Operand.tmp 31))]
            [2, 5, 7, 8, 9, 10, 28, 29])
          (Stmt.region
            [SOper.mk (some 32) none (SOp.mv (Operand.tmp 9)), SOper.mk (some 33) none (SOp.mv (Operand.tmp 10)),
              SOper.mk (some 34) none
                (SOp.build 223 [Value.int IntKind.i64 0, Value.int IntKind.i64 0, Value.int IntKind.i64 0]
                  [(0, 1, Operand.tmp 33), (1, 1, Operand.const (Value.int IntKind.i64 0)),
                    (2, 1, Operand.const (Value.int IntKind.i64 0))]),
              SOper.mk (some 35) none (SOp.call (Operand.tmp 32) [Operand.tmp 34])]
            [2, 5, 7, 8, 9, 28, 29])))
      (Stmt.region
        [SOper.mk (some 36) none (SOp.ibin BinOp.add (Operand.tmp 29) (Operand.const (Value.int IntKind.i64 1))),
          SOper.mk (some 29) none (SOp.mv (Operand.tmp 36))]
        [2, 5, 7, 8, 9, 28, 29])))
def S114_2 : Stmt :=
  Stmt.block 5
  (Stmt.seq
    (Stmt.region
      [SOper.mk (some 79) none (SOp.idx 3 (Operand.tmp 75) (Operand.tmp 77)),
        SOper.mk (some 80) none (SOp.load true 3 (Operand.tmp 79)),
        SOper.mk (some 14) none
          (SOp.alloc true 223
            (Value.agg (Array.mk [Value.int IntKind.i64 0, Value.int IntKind.i64 0, Value.int IntKind.i64 0]))),
        SOper.mk none none (SOp.store 3 (Operand.tmp 14) (Operand.tmp 80))]
      [2, 5, 7, 8, 9, 11, 12, 14, 75, 76, 77])
    (Stmt.seq
      (Stmt.region
        [SOper.mk (some 81) none (SOp.fld 3 (Operand.tmp 2)),
          SOper.mk (some 82) none (SOp.load false 1 (Operand.tmp 81)),
          SOper.mk (some 83) none (SOp.fld 0 (Operand.tmp 14)),
          SOper.mk (some 84) none (SOp.load false 1 (Operand.tmp 83)),
          SOper.mk (some 85) none (SOp.idx 2 (Operand.tmp 82) (Operand.tmp 84)),
          SOper.mk (some 86) none (SOp.fld 1 (Operand.tmp 85)),
          SOper.mk (some 87) none (SOp.load false 1 (Operand.tmp 86)),
          SOper.mk (some 15) none (SOp.mv (Operand.tmp 87))]
        [2, 5, 7, 8, 9, 11, 12, 14, 15, 75, 76, 77])
      (Stmt.seq
        (Stmt.quiet
          [SOper.mk (some 88) none (SOp.fld 1 (Operand.tmp 14)),
            SOper.mk (some 89) none (SOp.load false 1 (Operand.tmp 88)),
            SOper.mk (some 90) none (SOp.mv (Operand.tmp 15)), SOper.mk (some 91) none (SOp.len false (Operand.tmp 90)),
            SOper.mk (some 92) none (SOp.ibin BinOp.lss (Operand.tmp 89) (Operand.tmp 91)),
            SOper.mk (some 93) none (SOp.mv (Operand.tmp 92)),
            SOper.mk (some 94) (some (93, true)) (SOp.mv (Operand.tmp 15)),
            SOper.mk (some 95) (some (93, true)) (SOp.fld 1 (Operand.tmp 14)),
            SOper.mk (some 96) (some (93, true)) (SOp.load false 1 (Operand.tmp 95)),
            SOper.mk (some 97) (some (93, true)) (SOp.idx 2 (Operand.tmp 94) (Operand.tmp 96)),
            SOper.mk (some 98) (some (93, true)) (SOp.fld 0 (Operand.tmp 97)),
            SOper.mk (some 99) (some (93, true)) (SOp.load false 1 (Operand.tmp 98)),
            SOper.mk (some 100) (some (93, true)) (SOp.un UnOp.not (Operand.tmp 99)),
            SOper.mk (some 101) none (SOp.pick (Operand.tmp 93) (Operand.tmp 100) (Operand.const (Value.bool false))),
            SOper.mk (some 102) none (SOp.mv (Operand.tmp 101)),
            SOper.mk (some 103) (some (102, true)) (SOp.mv (Operand.tmp 15)),
            SOper.mk (some 104) (some (102, true)) (SOp.fld 1 (Operand.tmp 14)),
            SOper.mk (some 105) (some (102, true)) (SOp.load false 1 (Operand.tmp 104)),
            SOper.mk (some 106) (some (102, true)) (SOp.idx 2 (Operand.tmp 103) (Operand.tmp 105)),
            SOper.mk (some 107) (some (102, true)) (SOp.fld 1 (Operand.tmp 106)),
            SOper.mk (some 108) (some (102, true)) (SOp.load false 1 (Operand.tmp 107)),
            SOper.mk (some 109) (some (102, true)) (SOp.fld 0 (Operand.tmp 12)),
            SOper.mk (some 110) (some (102, true)) (SOp.load false 1 (Operand.tmp 109)),
            SOper.mk (some 111) (some (102, true)) (SOp.ibin BinOp.eql (Operand.tmp 108) (Operand.tmp 110)),
            SOper.mk (some 112) none (SOp.pick (Operand.tmp 102) (Operand.tmp 111) (Operand.const (Value.bool false)))]
          [2, 5, 7, 8, 9, 11, 12, 14, 75, 76, 77, 112])
        (Stmt.cond (Operand.tmp 112)
          (Stmt.region
            [SOper.mk (some 113) none (SOp.mv (Operand.tmp 9)), SOper.mk (some 114) none (SOp.fld 0 (Operand.tmp 14)),
              SOper.mk (some 115) none (SOp.load false 1 (Operand.tmp 114)),
              SOper.mk (some 116) none (SOp.fld 1 (Operand.tmp 14)),
              SOper.mk (some 117) none (SOp.load false 1 (Operand.tmp 116)),
              SOper.mk (some 118) none (SOp.ibin BinOp.add (Operand.tmp 117) (Operand.const (Value.int IntKind.i64 1))),
              SOper.mk (some 119) none (SOp.fld 2 (Operand.tmp 14)),
              SOper.mk (some 120) none (SOp.load false 1 (Operand.tmp 119)),
              SOper.mk (some 121) none (SOp.fld 2 (Operand.tmp 11)),
              SOper.mk (some 122) none (SOp.load false 1 (Operand.tmp 121)),
              SOper.mk (some 123) none (SOp.ibin BinOp.add (Operand.tmp 120) (Operand.tmp 122)),
              SOper.mk (some 124) none
                (SOp.build 223 [Value.int IntKind.i64 0, Value.int IntKind.i64 0, Value.int IntKind.i64 0]
                  [(0, 1, Operand.tmp 115), (1, 1, Operand.tmp 118), (2, 1, Operand.tmp 123)]),
              SOper.mk (some 125) none (SOp.call (Operand.tmp 113) [Operand.tmp 124])]
            [2, 5, 7, 8, 9, 11, 12, 75, 76, 77])
          Stmt.skip))))
def S114_3 : Stmt :=
  Stmt.region
  [SOper.mk (some 126) none (SOp.ibin BinOp.add (Operand.tmp 77) (Operand.const (Value.int IntKind.i64 1))),
    SOper.mk (some 77) none (SOp.mv (Operand.tmp 126))]
  [2, 5, 7, 8, 9, 11, 12, 75, 76, 77]
def S114_4 : Stmt :=
  Stmt.seq
  (Stmt.region [SOper.mk (some 78) none (SOp.ibin BinOp.lss (Operand.tmp 77) (Operand.tmp 76))]
    [2, 5, 7, 8, 9, 11, 12, 75, 76, 77, 78])
  (Stmt.seq (Stmt.cond (Operand.tmp 78) Stmt.skip (Stmt.exit 4))
    (Stmt.join S114_2 S114_3 [] [2, 5, 7, 8, 9, 11, 12, 75, 76, 77]))
def S114_5 : Stmt :=
  Stmt.seq
  (Stmt.quiet
    [SOper.mk (some 57) none (SOp.mv (Operand.tmp 5)), SOper.mk (some 58) none (SOp.fld 0 (Operand.tmp 12)),
      SOper.mk (some 59) none (SOp.load false 1 (Operand.tmp 58)),
      SOper.mk (some 60) none (SOp.idx 1 (Operand.tmp 57) (Operand.tmp 59)),
      SOper.mk (some 61) none (SOp.load false 1 (Operand.tmp 60)), SOper.mk (some 62) none (SOp.fld 2 (Operand.tmp 11)),
      SOper.mk (some 63) none (SOp.load false 1 (Operand.tmp 62)),
      SOper.mk (some 64) none (SOp.idx 1 (Operand.tmp 61) (Operand.tmp 63)),
      SOper.mk (some 65) none (SOp.load false 1 (Operand.tmp 64)),
      SOper.mk (some 66) none (SOp.un UnOp.not (Operand.tmp 65))]
    [2, 5, 7, 8, 9, 11, 12, 66])
  (Stmt.cond (Operand.tmp 66)
    (Stmt.seq
      (Stmt.drawn
        [(false, SOper.mk (some 67) none (SOp.mv (Operand.tmp 5))),
          (false, SOper.mk (some 68) none (SOp.fld 0 (Operand.tmp 12))),
          (false, SOper.mk (some 69) none (SOp.load false 1 (Operand.tmp 68))),
          (false, SOper.mk (some 70) none (SOp.idx 1 (Operand.tmp 67) (Operand.tmp 69))),
          (false, SOper.mk (some 71) none (SOp.load false 1 (Operand.tmp 70))),
          (false, SOper.mk (some 72) none (SOp.fld 2 (Operand.tmp 11))),
          (false, SOper.mk (some 73) none (SOp.load false 1 (Operand.tmp 72))),
          (false, SOper.mk (some 74) none (SOp.idx 1 (Operand.tmp 71) (Operand.tmp 73))),
          (false, SOper.mk none none (SOp.store 1 (Operand.tmp 74) (Operand.const (Value.bool true))))]
        [2, 5, 7, 8, 9, 11, 12])
      (Stmt.seq
        (Stmt.region
          [SOper.mk (some 75) none (SOp.load false 1 (Operand.tmp 7)),
            SOper.mk (some 76) none (SOp.len false (Operand.tmp 75)),
            SOper.mk (some 77) none (SOp.mv (Operand.const (Value.int IntKind.i64 0)))]
          [2, 5, 7, 8, 9, 11, 12, 75, 76, 77])
        (Stmt.block 4 (Stmt.loop S114_4 [77] [2, 5, 7, 8, 9, 11, 12, 75, 76]))))
    Stmt.skip)
def S114_6 : Stmt :=
  Stmt.exit 3
def S114_7 : Stmt :=
  Stmt.block 7
  (Stmt.seq
    (Stmt.region
      [SOper.mk (some 154) none (SOp.mv (Operand.tmp 152)),
        SOper.mk (some 155) none (SOp.idx 1 (Operand.tmp 150) (Operand.tmp 152)),
        SOper.mk (some 156) none (SOp.load false 1 (Operand.tmp 155)),
        SOper.mk (some 17) none (SOp.mv (Operand.tmp 154)), SOper.mk (some 18) none (SOp.mv (Operand.tmp 156))]
      [2, 5, 7, 8, 9, 11, 17, 18, 150, 151, 152])
    (Stmt.seq
      (Stmt.region [SOper.mk (some 157) none (SOp.mv (Operand.tmp 18))] [2, 5, 7, 8, 9, 11, 17, 150, 151, 152, 157])
      (Stmt.cond (Operand.tmp 157)
        (Stmt.region
          [SOper.mk (some 158) none (SOp.mv (Operand.tmp 9)), SOper.mk (some 159) none (SOp.fld 0 (Operand.tmp 11)),
            SOper.mk (some 160) none (SOp.load false 1 (Operand.tmp 159)),
            SOper.mk (some 161) none (SOp.fld 1 (Operand.tmp 11)),
            SOper.mk (some 162) none (SOp.load false 1 (Operand.tmp 161)),
            SOper.mk (some 163) none (SOp.ibin BinOp.add (Operand.tmp 162) (Operand.const (Value.int IntKind.i64 1))),
            SOper.mk (some 164) none (SOp.fld 2 (Operand.tmp 11)),
            SOper.mk (some 165) none (SOp.load false 1 (Operand.tmp 164)),
            SOper.mk (some 166) none (SOp.mv (Operand.tmp 17)),
            SOper.mk (some 167) none (SOp.ibin BinOp.add (Operand.tmp 165) (Operand.tmp 166)),
            SOper.mk (some 168) none
              (SOp.build 223 [Value.int IntKind.i64 0, Value.int IntKind.i64 0, Value.int IntKind.i64 0]
                [(0, 1, Operand.tmp 160), (1, 1, Operand.tmp 163), (2, 1, Operand.tmp 167)]),
            SOper.mk (some 169) none (SOp.call (Operand.tmp 158) [Operand.tmp 168])]
          [2, 5, 7, 8, 9, 11, 150, 151, 152])
        Stmt.skip)))
def S114_8 : Stmt :=
  Stmt.region
  [SOper.mk (some 170) none (SOp.ibin BinOp.add (Operand.tmp 152) (Operand.const (Value.int IntKind.i64 1))),
    SOper.mk (some 152) none (SOp.mv (Operand.tmp 170))]
  [2, 5, 7, 8, 9, 11, 150, 151, 152]
def S114_9 : Stmt :=
  Stmt.seq
  (Stmt.region [SOper.mk (some 153) none (SOp.ibin BinOp.lss (Operand.tmp 152) (Operand.tmp 151))]
    [2, 5, 7, 8, 9, 11, 150, 151, 152, 153])
  (Stmt.seq (Stmt.cond (Operand.tmp 153) Stmt.skip (Stmt.exit 6))
    (Stmt.join S114_7 S114_8 [] [2, 5, 7, 8, 9, 11, 150, 151, 152]))
def S114_10 : Stmt :=
  Stmt.seq
  (Stmt.seq
    (Stmt.region
      [SOper.mk (some 37) none (SOp.load false 1 (Operand.tmp 8)),
        SOper.mk (some 38) none (SOp.len false (Operand.tmp 37)),
        SOper.mk (some 39) none (SOp.ibin BinOp.gtr (Operand.tmp 38) (Operand.const (Value.int IntKind.i64 0)))]
      [2, 5, 7, 8, 9, 39])
    (Stmt.cond (Operand.tmp 39) Stmt.skip (Stmt.exit 2)))
  (Stmt.block 3
    (Stmt.seq
      (Stmt.region
        [SOper.mk (some 40) none (SOp.load false 1 (Operand.tmp 8)),
          SOper.mk (some 41) none (SOp.idx 3 (Operand.tmp 40) (Operand.const (Value.int IntKind.i64 0))),
          SOper.mk (some 42) none (SOp.load true 3 (Operand.tmp 41)),
          SOper.mk (some 11) none
            (SOp.alloc true 223
              (Value.agg (Array.mk [Value.int IntKind.i64 0, Value.int IntKind.i64 0, Value.int IntKind.i64 0]))),
          SOper.mk none none (SOp.store 3 (Operand.tmp 11) (Operand.tmp 42))]
        [2, 5, 7, 8, 9, 11])
      (Stmt.seq
        (Stmt.region
          [SOper.mk (some 43) none (SOp.load false 1 (Operand.tmp 8)),
            SOper.mk (some 44) none
              (SOp.slc 3 (Operand.tmp 43) (some (Operand.const (Value.int IntKind.i64 1))) none none),
            SOper.mk none none (SOp.store 1 (Operand.tmp 8) (Operand.tmp 44))]
          [2, 5, 7, 8, 9, 11])
        (Stmt.seq
          (Stmt.region
            [SOper.mk (some 45) none (SOp.fld 3 (Operand.tmp 2)),
              SOper.mk (some 46) none (SOp.load false 1 (Operand.tmp 45)),
              SOper.mk (some 47) none (SOp.fld 0 (Operand.tmp 11)),
              SOper.mk (some 48) none (SOp.load false 1 (Operand.tmp 47)),
              SOper.mk (some 49) none (SOp.idx 2 (Operand.tmp 46) (Operand.tmp 48)),
              SOper.mk (some 50) none (SOp.load true 2 (Operand.tmp 49)),
              SOper.mk (some 12) none
                (SOp.alloc true 37 (Value.agg (Array.mk [Value.int IntKind.i64 0, Value.slice none 0 0]))),
              SOper.mk none none (SOp.store 2 (Operand.tmp 12) (Operand.tmp 50))]
            [2, 5, 7, 8, 9, 11, 12])
          (Stmt.seq
            (Stmt.seq
              (Stmt.region
                [SOper.mk (some 51) none (SOp.fld 1 (Operand.tmp 11)),
                  SOper.mk (some 52) none (SOp.load false 1 (Operand.tmp 51)),
                  SOper.mk (some 53) none (SOp.fld 1 (Operand.tmp 12)),
                  SOper.mk (some 54) none (SOp.load false 1 (Operand.tmp 53)),
                  SOper.mk (some 55) none (SOp.len false (Operand.tmp 54)),
                  SOper.mk (some 56) none (SOp.ibin BinOp.eql (Operand.tmp 52) (Operand.tmp 55))]
                [2, 5, 7, 8, 9, 11, 12, 56])
              (Stmt.cond (Operand.tmp 56) (Stmt.join S114_5 S114_6 [] [2, 5, 7, 8, 9]) Stmt.skip))
            (Stmt.seq
              (Stmt.region
                [SOper.mk (some 127) none (SOp.fld 1 (Operand.tmp 12)),
                  SOper.mk (some 128) none (SOp.load false 1 (Operand.tmp 127)),
                  SOper.mk (some 129) none (SOp.fld 1 (Operand.tmp 11)),
                  SOper.mk (some 130) none (SOp.load false 1 (Operand.tmp 129)),
                  SOper.mk (some 131) none (SOp.idx 2 (Operand.tmp 128) (Operand.tmp 130)),
                  SOper.mk (some 132) none (SOp.load true 2 (Operand.tmp 131)),
                  SOper.mk (some 16) none
                    (SOp.alloc true 39 (Value.agg (Array.mk [Value.bool false, Value.int IntKind.i64 0]))),
                  SOper.mk none none (SOp.store 2 (Operand.tmp 16) (Operand.tmp 132))]
                [2, 5, 7, 8, 9, 11, 16])
              (Stmt.seq
                (Stmt.seq
                  (Stmt.region
                    [SOper.mk (some 133) none (SOp.fld 0 (Operand.tmp 16)),
                      SOper.mk (some 134) none (SOp.load false 1 (Operand.tmp 133))]
                    [2, 5, 7, 8, 9, 11, 16, 134])
                  (Stmt.cond (Operand.tmp 134)
                    (Stmt.seq
                      (Stmt.region
                        [SOper.mk (some 135) none (SOp.mv (Operand.tmp 9)),
                          SOper.mk (some 136) none (SOp.fld 0 (Operand.tmp 11)),
                          SOper.mk (some 137) none (SOp.load false 1 (Operand.tmp 136)),
                          SOper.mk (some 138) none (SOp.fld 1 (Operand.tmp 11)),
                          SOper.mk (some 139) none (SOp.load false 1 (Operand.tmp 138)),
                          SOper.mk (some 140) none
                            (SOp.ibin BinOp.add (Operand.tmp 139) (Operand.const (Value.int IntKind.i64 1))),
                          SOper.mk (some 141) none (SOp.fld 2 (Operand.tmp 11)),
                          SOper.mk (some 142) none (SOp.load false 1 (Operand.tmp 141)),
                          SOper.mk (some 143) none
                            (SOp.ibin BinOp.add (Operand.tmp 142) (Operand.const (Value.int IntKind.i64 1))),
                          SOper.mk (some 144) none
                            (SOp.build 223 [Value.int IntKind.i64 0, Value.int IntKind.i64 0, Value.int IntKind.i64 0]
                              [(0, 1, Operand.tmp 137), (1, 1, Operand.tmp 140), (2, 1, Operand.tmp 143)]),
                          SOper.mk (some 145) none (SOp.call (Operand.tmp 135) [Operand.tmp 144])]
                        [2, 5, 7, 8, 9])
                      (Stmt.exit 3))
                    Stmt.skip))
                (Stmt.seq
                  (Stmt.region
                    [SOper.mk (some 146) none (SOp.mv (Operand.tmp 5)),
                      SOper.mk (some 147) none (SOp.fld 1 (Operand.tmp 16)),
                      SOper.mk (some 148) none (SOp.load false 1 (Operand.tmp 147)),
                      SOper.mk (some 149) none (SOp.idx 1 (Operand.tmp 146) (Operand.tmp 148)),
                      SOper.mk (some 150) none (SOp.load false 1 (Operand.tmp 149)),
                      SOper.mk (some 151) none (SOp.len false (Operand.tmp 150)),
                      SOper.mk (some 152) none (SOp.mv (Operand.const (Value.int IntKind.i64 0)))]
                    [2, 5, 7, 8, 9, 11, 150, 151, 152])
                  (Stmt.block 6 (Stmt.loop S114_9 [152] [2, 5, 7, 8, 9, 11, 150, 151]))))))))))
def S114_0 : Stmt :=
  Stmt.seq
  (Stmt.region
    [SOper.mk (some 2) none (SOp.box true 57 (Operand.tmp 0)), SOper.mk (some 3) none (SOp.box false 3 (Operand.tmp 1)),
      SOper.mk (some 4) none (SOp.mv (Operand.const (Value.slice none 0 0)))]
    [2, 3])
  (Stmt.seq
    (Stmt.region
      [SOper.mk (some 19) none (SOp.fld 1 (Operand.tmp 2)), SOper.mk (some 20) none (SOp.load false 1 (Operand.tmp 19)),
        SOper.mk (some 21) none (SOp.load false 1 (Operand.tmp 3)),
        SOper.mk (some 22) none (SOp.ibin BinOp.add (Operand.tmp 21) (Operand.const (Value.int IntKind.i64 1))),
        SOper.mk (some 23) none (SOp.call (Operand.func 151) [Operand.tmp 20, Operand.tmp 22]),
        SOper.mk (some 5) none (SOp.mv (Operand.tmp 23))]
      [2, 3, 5])
    (Stmt.seq
      (Stmt.region
        [SOper.mk (some 24) none (SOp.n (Qk.mkmap 220) []),
          SOper.mk (some 6) none (SOp.alloc false 220 (Value.map none)),
          SOper.mk none none (SOp.store 1 (Operand.tmp 6) (Operand.tmp 24))]
        [2, 3, 5, 6])
      (Stmt.seq
        (Stmt.region
          [SOper.mk (some 7) none (SOp.alloc false 221 (Value.slice none 0 0)),
            SOper.mk (some 8) none (SOp.alloc false 221 (Value.slice none 0 0))]
          [2, 3, 5, 6, 7, 8])
        (Stmt.seq
          (Stmt.region
            [SOper.mk (some 25) none (SOp.mkFunc 173 [Operand.tmp 3, Operand.tmp 6, Operand.tmp 7, Operand.tmp 8]),
              SOper.mk (some 9) none (SOp.mv (Operand.tmp 25))]
            [2, 5, 7, 8, 9])
          (Stmt.seq
            (Stmt.seq
              (Stmt.region
                [SOper.mk (some 26) none (SOp.fld 3 (Operand.tmp 2)),
                  SOper.mk (some 27) none (SOp.load false 1 (Operand.tmp 26)),
                  SOper.mk (some 28) none (SOp.len false (Operand.tmp 27)),
                  SOper.mk (some 29) none (SOp.mv (Operand.const (Value.int IntKind.i64 0)))]
                [2, 5, 7, 8, 9, 28, 29])
              (Stmt.block 0 (Stmt.loop S114_1 [29] [2, 5, 7, 8, 9, 28])))
            (Stmt.seq (Stmt.block 2 (Stmt.loop S114_10 [8] [2, 5, 7, 9]))
              (Stmt.seq
                (Stmt.region
                  [SOper.mk (some 171) none (SOp.mv (Operand.tmp 5)), SOper.mk (some 4) none (SOp.mv (Operand.tmp 171))]
                  [4])
                Stmt.ret)))))))
def S114 : FnS := ⟨172, [(4, none)], S114_0⟩
theorem tr114 : trFn Try.prog 114 [2, 11, 12, 14, 16] [[2, 3], [2, 3, 5], [2, 3, 5, 6], [2, 3, 5, 6, 7, 8], [2, 5, 7, 8, 9], [2, 5, 7, 8, 9, 28, 29], [29], [2, 5, 7, 8, 9, 28], [2, 5, 7, 8, 9, 28, 29, 30], [2, 5, 7, 8, 9, 10, 28, 29], [2, 5, 7, 8, 9, 28, 29], [2, 5, 7, 8, 9, 28, 29], [8], [2, 5, 7, 9], [2, 5, 7, 8, 9, 39], [2, 5, 7, 8, 9, 11], [2, 5, 7, 8, 9, 11], [2, 5, 7, 8, 9, 11, 12], [2, 5, 7, 8, 9, 11, 12, 56], [], [2, 5, 7, 8, 9], [2, 5, 7, 8, 9, 11, 12, 66], [2, 5, 7, 8, 9, 11, 12], [0, 1, 2, 3, 4, 5, 6, 7, 8], [], [], [], [1], [0, 1, 2], [0, 1, 2, 3], [], [5], [0, 1, 2, 3, 4, 5, 6], [0, 1, 2, 3, 4, 5, 6, 7], [2, 5, 7, 8, 9, 11, 12, 75, 76, 77], [77], [2, 5, 7, 8, 9, 11, 12, 75, 76], [2, 5, 7, 8, 9, 11, 12, 75, 76, 77, 78], [], [2, 5, 7, 8, 9, 11, 12, 75, 76, 77], [2, 5, 7, 8, 9, 11, 12, 14, 75, 76, 77], [2, 5, 7, 8, 9, 11, 12, 14, 15, 75, 76, 77], [2, 5, 7, 8, 9, 11, 12, 14, 75, 76, 77, 112], [2, 5, 7, 8, 9, 11, 12, 75, 76, 77], [2, 5, 7, 8, 9, 11, 12, 75, 76, 77], [2, 5, 7, 8, 9, 11, 16], [2, 5, 7, 8, 9, 11, 16, 134], [2, 5, 7, 8, 9], [2, 5, 7, 8, 9, 11, 150, 151, 152], [152], [2, 5, 7, 8, 9, 11, 150, 151], [2, 5, 7, 8, 9, 11, 150, 151, 152, 153], [], [2, 5, 7, 8, 9, 11, 150, 151, 152], [2, 5, 7, 8, 9, 11, 17, 18, 150, 151, 152], [2, 5, 7, 8, 9, 11, 17, 150, 151, 152, 157], [2, 5, 7, 8, 9, 11, 150, 151, 152], [2, 5, 7, 8, 9, 11, 150, 151, 152], [4]] = some S114 := by kernel_rfl
end Go.Proofs.Ytniobbepliknmaa.V
