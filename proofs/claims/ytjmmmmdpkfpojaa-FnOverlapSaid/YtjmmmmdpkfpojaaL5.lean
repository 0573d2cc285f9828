import Derived.Test.YtjmmmmdpkfpojaaK2
import Derived.Test.YtjmmmmdpkfpojaaProg
import Derived.KernelRfl
import Derived.Test.YtjmmmmdpkfpojaaL4
set_option linter.unusedSimpArgs false
set_option linter.unusedVariables false
namespace Go.Proofs.Ytjmmmmdpkfpojaa
open Go Go.IW
def c4 : CC :=
 (.seq (.reg [
   ⟨(some 2), none, .f (.mv (.c (.bool false)))⟩])
 (.seq (.seq (.reg [
   ⟨(some 19), none, .f (.mv (.t 0))⟩,
   ⟨(some 20), none, .f (.len (.t 19))⟩,
   ⟨(some 21), none, .f (.bin .gtr (.t 20) (.c (.int .i64 1048576)))⟩])
 (.cond (.t 21)
  (.seq (.reg [
    ⟨(some 2), none, .f (.mv (.c (.bool true)))⟩])
  .ret)
  .skip))
 (.seq (.reg [
   ⟨(some 22), none, .f (.mv (.t 0))⟩,
   ⟨(some 23), none, .x (.call 16 [(.t 22), (.c (.int .u64 8))])⟩,
   ⟨(some 3), none, .x (.zero 37 3 [.nilslice, (.int .i64 0), (.int .u64 0)])⟩,
   ⟨none, none, .x (.st 3 (.t 3) (.t 23))⟩])
 (.seq (.reg [
   ⟨(some 24), none, .x (.call 17 [(.t 3), (.c (.int .i64 14))])⟩,
   ⟨(some 25), none, .f (.bin .add (.c (.int .i64 1)) (.t 24))⟩,
   ⟨(some 4), none, .f (.mv (.t 25))⟩])
 (.seq (.reg [
   ⟨(some 26), none, .x (.bslice 44 11 [(.int .i64 0), (.int .i64 0), (.bool false), (.bool false), (.int .i64 0), (.int .i64 0), (.int .i64 0), (.int .i64 0), (.int .i64 0), .nilslice, .nilslice] 0 [])⟩,
   ⟨(some 5), none, .f (.mv (.t 26))⟩])
 (.seq (.reg [
   ⟨(some 27), none, .x (.bslice 44 11 [(.int .i64 0), (.int .i64 0), (.bool false), (.bool false), (.int .i64 0), (.int .i64 0), (.int .i64 0), (.int .i64 0), (.int .i64 0), .nilslice, .nilslice] 0 [])⟩,
   ⟨(some 6), none, .f (.mv (.t 27))⟩])
 (.seq (.reg [
   ⟨(some 28), none, .f (.mv (.t 4))⟩,
   ⟨(some 29), none, .x (.mks 4 1 1 [(.bool false)] (.t 28) (.t 28))⟩,
   ⟨(some 7), none, .f (.mv (.t 29))⟩])
 (.seq (.seq (.reg [
   ⟨(some 8), none, .f (.mv (.c (.int .i64 0)))⟩])
 (.block 0 (.loop (.seq (.seq (.reg [
     ⟨(some 30), none, .f (.mv (.t 8))⟩,
     ⟨(some 31), none, .f (.mv (.t 4))⟩,
     ⟨(some 32), none, .f (.bin .lss (.t 30) (.t 31))⟩])
   (.cond (.t 32)
    .skip
    (.exit 0)))
   (.seq (.block 1 (.seq (.reg [
      ⟨(some 35), none, .f (.mv (.t 8))⟩,
      ⟨(some 36), none, .x (.call 18 [(.t 3), (.t 35)])⟩,
      ⟨(some 9), none, .x (.zero 44 11 [(.int .i64 0), (.int .i64 0), (.bool false), (.bool false), (.int .i64 0), (.int .i64 0), (.int .i64 0), (.int .i64 0), (.int .i64 0), .nilslice, .nilslice])⟩,
      ⟨none, none, .x (.st 11 (.t 9) (.t 36))⟩])
    (.seq (.reg [
      ⟨(some 37), none, .f (.mv (.t 5))⟩,
      ⟨(some 38), none, .f (.ldA 11 (.t 9))⟩,
      ⟨(some 39), none, .x (.bslice 44 11 [(.int .i64 0), (.int .i64 0), (.bool false), (.bool false), (.int .i64 0), (.int .i64 0), (.int .i64 0), (.int .i64 0), (.int .i64 0), .nilslice, .nilslice] 1 [(0, (.t 38))])⟩,
      ⟨(some 40), none, .x (.app 44 11 112 (.t 37) (.t 39))⟩,
      ⟨(some 5), none, .f (.mv (.t 40))⟩])
    (.seq (.dreg [
      ⟨(some 42), none, .f (.ldA 11 (.t 9))⟩,
      ⟨(some 43), none, .x (.call 17 [(.t 3), (.c (.int .i64 200))])⟩,
      ⟨(some 44), none, .f (.bin .add (.c (.int .i64 80)) (.t 43))⟩,
      ⟨(some 45), none, .x (.call 19 [(.t 42), (.t 44)])⟩,
      ⟨(some 41), none, .f (.mv (.t 45))⟩,
      ⟨(some 46), none, .f (.ext 0 (.t 41))⟩,
      ⟨(some 47), none, .f (.ext 1 (.t 41))⟩,
      ⟨(some 10), none, .f (.mv (.t 46))⟩,
      ⟨(some 11), none, .f (.mv (.t 47))⟩]
      [false, true, false, true, false, false, false, false, false] [[], [], [1], [0, 2, 1], [3, 0, 2, 1], [4, 3, 0, 2, 1], [4, 3, 0, 2, 1], [5, 4, 3, 0, 2, 1], [6, 4, 3, 0, 2, 1, 7, 5]] [0, 1, 2, 3, 4, 5, 6, 7, 8])
    (.seq (.seq (.reg [
      ⟨(some 48), none, .f (.mv (.t 11))⟩,
      ⟨(some 49), none, .f (.bin .neq (.t 48) (.c (.int .i64 0)))⟩])
    (.cond (.t 49)
     (.seq (.reg [
       ⟨(some 2), none, .f (.mv (.c (.bool false)))⟩])
     .ret)
     .skip))
    (.seq (.reg [
      ⟨(some 12), none, .f (.mv (.c (.int .i64 0)))⟩])
    (.block 2 (.loop (.seq (.seq (.reg [
        ⟨(some 50), none, .f (.mv (.t 12))⟩,
        ⟨(some 51), none, .f (.mv (.t 10))⟩,
        ⟨(some 52), none, .f (.len (.t 51))⟩,
        ⟨(some 53), none, .f (.bin .lss (.t 50) (.t 52))⟩])
      (.cond (.t 53)
       .skip
       (.exit 2)))
      (.seq (.block 3 (.seq (.reg [
         ⟨(some 56), none, .x (.call 17 [(.t 3), (.c (.int .i64 12))])⟩])
       (.block 4 (.seq (.reg [
          ⟨(some 65), none, .f (.bin .eql (.t 56) (.c (.int .i64 0)))⟩,
          ⟨(some 64), none, .f (.mv (.t 65))⟩])
        (.cond (.t 64)
         (.reg [
           ⟨(some 66), none, .f (.mv (.t 7))⟩,
           ⟨(some 67), none, .f (.mv (.t 8))⟩,
           ⟨(some 68), none, .f (.iadr 1 (.t 66) (.t 67))⟩,
           ⟨none, none, .x (.st 1 (.t 68) (.c (.bool true)))⟩])
         (.seq (.reg [
           ⟨(some 70), none, .f (.bin .eql (.t 56) (.c (.int .i64 1)))⟩,
           ⟨(some 69), none, .f (.mv (.t 70))⟩])
         (.cond (.t 69)
          (.dreg [
            ⟨(some 71), none, .f (.mv (.t 6))⟩,
            ⟨(some 72), none, .f (.mv (.t 10))⟩,
            ⟨(some 73), none, .f (.mv (.t 12))⟩,
            ⟨(some 74), none, .f (.iadr 11 (.t 72) (.t 73))⟩,
            ⟨(some 75), none, .f (.ldA 11 (.t 74))⟩,
            ⟨(some 76), none, .f (.mv (.t 10))⟩,
            ⟨(some 77), none, .f (.mv (.t 12))⟩,
            ⟨(some 78), none, .f (.iadr 11 (.t 76) (.t 77))⟩,
            ⟨(some 79), none, .f (.ldA 11 (.t 78))⟩,
            ⟨(some 80), none, .x (.bslice 44 11 [(.int .i64 0), (.int .i64 0), (.bool false), (.bool false), (.int .i64 0), (.int .i64 0), (.int .i64 0), (.int .i64 0), (.int .i64 0), .nilslice, .nilslice] 2 [(0, (.t 75)), (1, (.t 79))])⟩,
            ⟨(some 81), none, .x (.app 44 11 112 (.t 71) (.t 80))⟩,
            ⟨(some 6), none, .f (.mv (.t 81))⟩]
            [false, false, false, false, false, false, false, false, false, true, true, true] [[], [], [], [1, 2], [3, 1, 2], [], [], [5, 6], [7, 5, 6], [4, 3, 1, 2, 8, 7, 5, 6], [0, 9, 4, 3, 1, 2, 8, 7, 5, 6], [10, 0, 9, 4, 3, 1, 2, 8, 7, 5, 6]] [0, 1, 2, 3, 4, 5, 6, 7, 8, 9, 10, 11])
          (.reg [
            ⟨(some 57), none, .f (.mv (.t 6))⟩,
            ⟨(some 58), none, .f (.mv (.t 10))⟩,
            ⟨(some 59), none, .f (.mv (.t 12))⟩,
            ⟨(some 60), none, .f (.iadr 11 (.t 58) (.t 59))⟩,
            ⟨(some 61), none, .f (.ldA 11 (.t 60))⟩,
            ⟨(some 62), none, .x (.bslice 44 11 [(.int .i64 0), (.int .i64 0), (.bool false), (.bool false), (.int .i64 0), (.int .i64 0), (.int .i64 0), (.int .i64 0), (.int .i64 0), .nilslice, .nilslice] 1 [(0, (.t 61))])⟩,
            ⟨(some 63), none, .x (.app 44 11 112 (.t 57) (.t 62))⟩,
            ⟨(some 6), none, .f (.mv (.t 63))⟩]))))))))
      (.reg [
        ⟨(some 54), none, .f (.mv (.t 12))⟩,
        ⟨(some 55), none, .f (.bin .add (.t 54) (.c (.int .i64 1)))⟩,
        ⟨(some 12), none, .f (.mv (.t 55))⟩])))))))))))
   (.reg [
     ⟨(some 33), none, .f (.mv (.t 8))⟩,
     ⟨(some 34), none, .f (.bin .add (.t 33) (.c (.int .i64 1)))⟩,
     ⟨(some 8), none, .f (.mv (.t 34))⟩]))))))
 (.seq (.reg [
   ⟨(some 83), none, .f (.mv (.t 6))⟩,
   ⟨(some 84), none, .x (.call 21 [(.t 3), (.t 83)])⟩,
   ⟨(some 85), none, .x (.call 20 [(.t 84)])⟩,
   ⟨(some 86), none, .x (.call 10 [(.t 85)])⟩,
   ⟨(some 82), none, .f (.mv (.t 86))⟩,
   ⟨(some 87), none, .f (.ext 0 (.t 82))⟩,
   ⟨(some 88), none, .f (.ext 1 (.t 82))⟩,
   ⟨(some 13), none, .f (.mv (.t 87))⟩,
   ⟨(some 14), none, .f (.mv (.t 88))⟩])
 (.seq (.seq (.reg [
   ⟨(some 89), none, .f (.mv (.t 14))⟩,
   ⟨(some 90), none, .f (.bin .neq (.t 89) (.c (.int .i64 0)))⟩,
   ⟨(some 91), none, .f (.mv (.t 90))⟩,
   ⟨(some 92), (some (91, false)), .f (.mv (.t 13))⟩,
   ⟨(some 93), (some (91, false)), .f (.len (.t 92))⟩,
   ⟨(some 94), (some (91, false)), .f (.mv (.t 6))⟩,
   ⟨(some 95), (some (91, false)), .f (.len (.t 94))⟩,
   ⟨(some 96), (some (91, false)), .f (.bin .neq (.t 93) (.t 95))⟩,
   ⟨(some 97), none, .f (.pick (.t 91) (.c (.bool true)) (.t 96))⟩])
 (.cond (.t 97)
  (.seq (.reg [
    ⟨(some 2), none, .f (.mv (.c (.bool false)))⟩])
  .ret)
  .skip))
 (.seq (.reg [
   ⟨(some 98), none, .f (.mv (.t 4))⟩,
   ⟨(some 99), none, .x (.mks 4 1 1 [(.bool false)] (.t 98) (.t 98))⟩,
   ⟨(some 15), none, .f (.mv (.t 99))⟩])
 (.seq (.seq (.reg [
   ⟨(some 16), none, .f (.mv (.c (.int .i64 0)))⟩])
 (.block 5 (.loop (.seq (.seq (.reg [
     ⟨(some 100), none, .f (.mv (.t 16))⟩,
     ⟨(some 101), none, .f (.mv (.t 13))⟩,
     ⟨(some 102), none, .f (.len (.t 101))⟩,
     ⟨(some 103), none, .f (.bin .lss (.t 100) (.t 102))⟩])
   (.cond (.t 103)
    .skip
    (.exit 5)))
   (.seq (.block 6 (.seq (.seq (.reg [
      ⟨(some 106), none, .f (.mv (.t 13))⟩,
      ⟨(some 107), none, .f (.mv (.t 16))⟩,
      ⟨(some 108), none, .f (.iadr 16 (.t 106) (.t 107))⟩,
      ⟨(some 109), none, .f (.fadr 14 (.t 108))⟩,
      ⟨(some 110), none, .f (.ld (.t 109))⟩,
      ⟨(some 111), none, .f (.bin .gtr (.t 110) (.c (.int .i64 16)))⟩])
    (.cond (.t 111)
     (.seq (.reg [
       ⟨(some 2), none, .f (.mv (.c (.bool false)))⟩])
     .ret)
     .skip))
    (.seq (.seq (.reg [
      ⟨(some 112), none, .f (.mv (.t 13))⟩,
      ⟨(some 113), none, .f (.mv (.t 16))⟩,
      ⟨(some 114), none, .f (.iadr 16 (.t 112) (.t 113))⟩,
      ⟨(some 115), none, .f (.fadr 1 (.t 114))⟩,
      ⟨(some 116), none, .f (.ld (.t 115))⟩,
      ⟨(some 117), none, .f (.un .not (.t 116))⟩])
    (.cond (.t 117)
     (.exit 6)
     .skip))
    (.seq (.reg [
      ⟨(some 118), none, .f (.mv (.t 13))⟩,
      ⟨(some 119), none, .f (.mv (.t 16))⟩,
      ⟨(some 120), none, .f (.iadr 16 (.t 118) (.t 119))⟩,
      ⟨(some 121), none, .f (.fadr 2 (.t 120))⟩,
      ⟨(some 122), none, .f (.fadr 1 (.t 121))⟩,
      ⟨(some 123), none, .f (.ld (.t 122))⟩,
      ⟨(some 17), none, .f (.mv (.t 123))⟩])
    (.seq (.seq (.dreg [
      ⟨(some 124), none, .f (.mv (.t 17))⟩,
      ⟨(some 125), none, .f (.bin .lss (.t 124) (.c (.int .i64 0)))⟩,
      ⟨(some 126), none, .f (.mv (.t 125))⟩,
      ⟨(some 127), (some (126, false)), .f (.mv (.t 17))⟩,
      ⟨(some 128), (some (126, false)), .f (.mv (.t 4))⟩,
      ⟨(some 129), (some (126, false)), .f (.bin .geq (.t 127) (.t 128))⟩,
      ⟨(some 130), none, .f (.pick (.t 126) (.c (.bool true)) (.t 129))⟩,
      ⟨(some 131), none, .f (.mv (.t 130))⟩,
      ⟨(some 132), (some (131, false)), .f (.mv (.t 13))⟩,
      ⟨(some 133), (some (131, false)), .f (.mv (.t 16))⟩,
      ⟨(some 134), (some (131, false)), .f (.iadr 16 (.t 132) (.t 133))⟩,
      ⟨(some 135), (some (131, false)), .f (.fadr 2 (.t 134))⟩,
      ⟨(some 136), (some (131, false)), .f (.ldA 11 (.t 135))⟩,
      ⟨(some 137), (some (131, false)), .f (.mv (.t 5))⟩,
      ⟨(some 138), (some (131, false)), .f (.mv (.t 17))⟩,
      ⟨(some 139), (some (131, false)), .f (.iadr 11 (.t 137) (.t 138))⟩,
      ⟨(some 140), (some (131, false)), .f (.ldA 11 (.t 139))⟩,
      ⟨(some 141), (some (131, false)), .x (.call 22 [(.t 136), (.t 140)])⟩,
      ⟨(some 142), (some (131, false)), .f (.un .not (.t 141))⟩,
      ⟨(some 143), none, .f (.pick (.t 131) (.c (.bool true)) (.t 142))⟩]
      [false, false, false, false, false, false, false, false, false, false, false, false, false, false, false, false, false, true, false, false] [[], [0], [1, 0], [2, 1, 0], [2, 1, 0], [3, 2, 1, 0, 4], [2, 1, 0, 5, 3, 4], [6, 2, 1, 0, 5, 3, 4], [7, 6, 2, 1, 0, 5, 3, 4], [7, 6, 2, 1, 0, 5, 3, 4], [8, 7, 6, 2, 1, 0, 5, 3, 4, 9], [10, 8, 7, 6, 2, 1, 0, 5, 3, 4, 9], [11, 10, 8, 7, 6, 2, 1, 0, 5, 3, 4, 9], [7, 6, 2, 1, 0, 5, 3, 4], [7, 6, 2, 1, 0, 5, 3, 4], [13, 7, 6, 2, 1, 0, 5, 3, 4, 14], [15, 13, 7, 6, 2, 1, 0, 5, 3, 4, 14], [12, 11, 10, 8, 7, 6, 2, 1, 0, 5, 3, 4, 9, 16, 15, 13, 14], [17, 12, 11, 10, 8, 7, 6, 2, 1, 0, 5, 3, 4, 9, 16, 15, 13, 14], [7, 6, 2, 1, 0, 5, 3, 4, 18, 17, 12, 11, 10, 8, 9, 16, 15, 13, 14]] [0, 1, 2, 3, 4, 5, 6, 7, 8, 9, 10, 11, 12, 13, 14, 15, 16, 17, 18, 19])
    (.cond (.t 143)
     (.seq (.reg [
       ⟨(some 2), none, .f (.mv (.c (.bool false)))⟩])
     .ret)
     .skip))
    (.reg [
      ⟨(some 144), none, .f (.mv (.t 15))⟩,
      ⟨(some 145), none, .f (.mv (.t 17))⟩,
      ⟨(some 146), none, .f (.iadr 1 (.t 144) (.t 145))⟩,
      ⟨none, none, .x (.st 1 (.t 146) (.c (.bool true)))⟩]))))))
   (.reg [
     ⟨(some 104), none, .f (.mv (.t 16))⟩,
     ⟨(some 105), none, .f (.bin .add (.t 104) (.c (.int .i64 1)))⟩,
     ⟨(some 16), none, .f (.mv (.t 105))⟩]))))))
 (.seq (.seq (.reg [
   ⟨(some 18), none, .f (.mv (.c (.int .i64 0)))⟩])
 (.block 7 (.loop (.seq (.seq (.reg [
     ⟨(some 147), none, .f (.mv (.t 18))⟩,
     ⟨(some 148), none, .f (.mv (.t 4))⟩,
     ⟨(some 149), none, .f (.bin .lss (.t 147) (.t 148))⟩])
   (.cond (.t 149)
    .skip
    (.exit 7)))
   (.seq (.block 8 (.seq (.reg [
      ⟨(some 152), none, .f (.mv (.t 15))⟩,
      ⟨(some 153), none, .f (.mv (.t 18))⟩,
      ⟨(some 154), none, .f (.iadr 1 (.t 152) (.t 153))⟩,
      ⟨(some 155), none, .f (.ld (.t 154))⟩,
      ⟨(some 156), none, .f (.un .not (.t 155))⟩,
      ⟨(some 157), none, .f (.mv (.t 156))⟩,
      ⟨(some 158), (some (157, true)), .f (.mv (.t 7))⟩,
      ⟨(some 159), (some (157, true)), .f (.mv (.t 18))⟩,
      ⟨(some 160), (some (157, true)), .f (.iadr 1 (.t 158) (.t 159))⟩,
      ⟨(some 161), (some (157, true)), .f (.ld (.t 160))⟩,
      ⟨(some 162), (some (157, true)), .f (.un .not (.t 161))⟩,
      ⟨(some 163), none, .f (.pick (.t 157) (.t 162) (.c (.bool false)))⟩,
      ⟨(some 164), none, .f (.mv (.t 163))⟩,
      ⟨(some 165), (some (164, false)), .f (.mv (.t 15))⟩,
      ⟨(some 166), (some (164, false)), .f (.mv (.t 18))⟩,
      ⟨(some 167), (some (164, false)), .f (.iadr 1 (.t 165) (.t 166))⟩,
      ⟨(some 168), (some (164, false)), .f (.ld (.t 167))⟩,
      ⟨(some 169), (some (164, false)), .f (.mv (.t 168))⟩,
      ⟨(some 170), (some (169, true)), .f (.mv (.t 7))⟩,
      ⟨(some 171), (some (169, true)), .f (.mv (.t 18))⟩,
      ⟨(some 172), (some (169, true)), .f (.iadr 1 (.t 170) (.t 171))⟩,
      ⟨(some 173), (some (169, true)), .f (.ld (.t 172))⟩,
      ⟨(some 174), (some (164, false)), .f (.pick (.t 169) (.t 173) (.c (.bool false)))⟩,
      ⟨(some 175), none, .f (.pick (.t 164) (.c (.bool true)) (.t 174))⟩])
    (.cond (.t 175)
     (.seq (.reg [
       ⟨(some 2), none, .f (.mv (.c (.bool false)))⟩])
     .ret)
     .skip)))
   (.reg [
     ⟨(some 150), none, .f (.mv (.t 18))⟩,
     ⟨(some 151), none, .f (.bin .add (.t 150) (.c (.int .i64 1)))⟩,
     ⟨(some 18), none, .f (.mv (.t 151))⟩]))))))
 (.seq (.reg [
   ⟨(some 2), none, .f (.mv (.c (.bool true)))⟩])
 .ret))))))))))))))
def c5 : CC :=
 (.seq (.reg [
   ⟨(some 2), none, .f (.mv (.c (.bool false)))⟩])
 (.seq (.seq (.reg [
   ⟨(some 17), none, .f (.mv (.t 0))⟩,
   ⟨(some 18), none, .f (.len (.t 17))⟩,
   ⟨(some 19), none, .f (.bin .gtr (.t 18) (.c (.int .i64 1048576)))⟩])
 (.cond (.t 19)
  (.seq (.reg [
    ⟨(some 2), none, .f (.mv (.c (.bool true)))⟩])
  .ret)
  .skip))
 (.seq (.reg [
   ⟨(some 20), none, .f (.mv (.t 0))⟩,
   ⟨(some 21), none, .x (.call 16 [(.t 20), (.c (.int .u64 7))])⟩,
   ⟨(some 3), none, .x (.zero 37 3 [.nilslice, (.int .i64 0), (.int .u64 0)])⟩,
   ⟨none, none, .x (.st 3 (.t 3) (.t 21))⟩])
 (.seq (.reg [
   ⟨(some 22), none, .x (.call 18 [(.t 3), (.c (.int .i64 5))])⟩,
   ⟨(some 4), none, .x (.zero 44 11 [(.int .i64 0), (.int .i64 0), (.bool false), (.bool false), (.int .i64 0), (.int .i64 0), (.int .i64 0), (.int .i64 0), (.int .i64 0), .nilslice, .nilslice])⟩,
   ⟨none, none, .x (.st 11 (.t 4) (.t 22))⟩])
 (.seq (.reg [
   ⟨(some 23), none, .x (.call 17 [(.t 3), (.c (.int .i64 288))])⟩,
   ⟨(some 24), none, .f (.bin .add (.c (.int .i64 80)) (.t 23))⟩,
   ⟨(some 5), none, .f (.mv (.t 24))⟩])
 (.seq (.reg [
   ⟨(some 26), none, .f (.ldA 11 (.t 4))⟩,
   ⟨(some 27), none, .f (.mv (.t 5))⟩,
   ⟨(some 28), none, .x (.call 19 [(.t 26), (.t 27)])⟩,
   ⟨(some 25), none, .f (.mv (.t 28))⟩,
   ⟨(some 29), none, .f (.ext 0 (.t 25))⟩,
   ⟨(some 30), none, .f (.ext 1 (.t 25))⟩,
   ⟨(some 6), none, .f (.mv (.t 29))⟩,
   ⟨(some 7), none, .f (.mv (.t 30))⟩])
 (.seq (.seq (.reg [
   ⟨(some 31), none, .f (.mv (.t 7))⟩,
   ⟨(some 32), none, .f (.bin .neq (.t 31) (.c (.int .i64 0)))⟩])
 (.cond (.t 32)
  (.seq (.reg [
    ⟨(some 2), none, .f (.mv (.c (.bool false)))⟩])
  .ret)
  .skip))
 (.seq (.reg [
   ⟨(some 33), none, .f (.mv (.t 5))⟩,
   ⟨(some 34), none, .f (.bin .sub (.t 33) (.c (.int .i64 67)))⟩,
   ⟨(some 35), none, .x (.call 17 [(.t 3), (.t 34)])⟩,
   ⟨(some 36), none, .f (.bin .add (.c (.int .i64 68)) (.t 35))⟩,
   ⟨(some 8), none, .f (.mv (.t 36))⟩])
 (.seq (.reg [
   ⟨(some 37), none, .x (.bslice 44 11 [(.int .i64 0), (.int .i64 0), (.bool false), (.bool false), (.int .i64 0), (.int .i64 0), (.int .i64 0), (.int .i64 0), (.int .i64 0), .nilslice, .nilslice] 0 [])⟩,
   ⟨(some 9), none, .f (.mv (.t 37))⟩])
 (.seq (.seq (.reg [
   ⟨(some 10), none, .f (.mv (.c (.int .i64 0)))⟩])
 (.block 0 (.loop (.seq (.seq (.reg [
     ⟨(some 38), none, .f (.mv (.t 10))⟩,
     ⟨(some 39), none, .f (.mv (.t 6))⟩,
     ⟨(some 40), none, .f (.len (.t 39))⟩,
     ⟨(some 41), none, .f (.bin .lss (.t 38) (.t 40))⟩])
   (.cond (.t 41)
    .skip
    (.exit 0)))
   (.seq (.block 1 (.seq (.seq (.dreg [
      ⟨(some 44), none, .f (.mv (.t 6))⟩,
      ⟨(some 45), none, .f (.mv (.t 10))⟩,
      ⟨(some 46), none, .f (.iadr 11 (.t 44) (.t 45))⟩,
      ⟨(some 47), none, .f (.ldA 11 (.t 46))⟩,
      ⟨(some 48), none, .x (.call 23 [(.t 47)])⟩,
      ⟨(some 49), none, .f (.mv (.t 5))⟩,
      ⟨(some 50), none, .f (.bin .gtr (.t 48) (.t 49))⟩,
      ⟨(some 51), none, .f (.mv (.t 50))⟩,
      ⟨(some 52), (some (51, false)), .f (.mv (.t 6))⟩,
      ⟨(some 53), (some (51, false)), .f (.mv (.t 10))⟩,
      ⟨(some 54), (some (51, false)), .f (.iadr 11 (.t 52) (.t 53))⟩,
      ⟨(some 55), (some (51, false)), .f (.ldA 11 (.t 54))⟩,
      ⟨(some 56), (some (51, false)), .x (.call 23 [(.t 55)])⟩,
      ⟨(some 57), (some (51, false)), .f (.mv (.t 6))⟩,
      ⟨(some 58), (some (51, false)), .f (.mv (.t 10))⟩,
      ⟨(some 59), (some (51, false)), .f (.iadr 11 (.t 57) (.t 58))⟩,
      ⟨(some 60), (some (51, false)), .f (.ldA 11 (.t 59))⟩,
      ⟨(some 61), (some (51, false)), .x (.call 24 [(.t 60)])⟩,
      ⟨(some 62), (some (51, false)), .f (.bin .neq (.t 56) (.t 61))⟩,
      ⟨(some 63), none, .f (.pick (.t 51) (.c (.bool true)) (.t 62))⟩]
      [false, false, false, false, true, false, false, false, false, false, false, false, true, false, false, false, false, true, false, false] [[], [], [0, 1], [2, 0, 1], [3, 2, 0, 1], [], [4, 3, 2, 0, 1, 5], [6, 4, 3, 2, 0, 1, 5], [7, 6, 4, 3, 2, 0, 1, 5], [7, 6, 4, 3, 2, 0, 1, 5], [8, 7, 6, 4, 3, 2, 0, 1, 5, 9], [10, 8, 7, 6, 4, 3, 2, 0, 1, 5, 9], [11, 10, 8, 7, 6, 4, 3, 2, 0, 1, 5, 9], [7, 6, 4, 3, 2, 0, 1, 5], [7, 6, 4, 3, 2, 0, 1, 5], [13, 7, 6, 4, 3, 2, 0, 1, 5, 14], [15, 13, 7, 6, 4, 3, 2, 0, 1, 5, 14], [16, 15, 13, 7, 6, 4, 3, 2, 0, 1, 5, 14, 12, 11, 10, 8, 9], [12, 11, 10, 8, 7, 6, 4, 3, 2, 0, 1, 5, 9, 17, 16, 15, 13, 14], [7, 6, 4, 3, 2, 0, 1, 5, 18, 12, 11, 10, 8, 9, 17, 16, 15, 13, 14]] [0, 1, 2, 3, 5, 4, 6, 7, 8, 9, 10, 11, 13, 14, 15, 16, 12, 17, 18, 19])
    (.cond (.t 63)
     (.seq (.reg [
       ⟨(some 2), none, .f (.mv (.c (.bool false)))⟩])
     .ret)
     .skip))
    (.seq (.reg [
      ⟨(some 65), none, .f (.mv (.t 6))⟩,
      ⟨(some 66), none, .f (.mv (.t 10))⟩,
      ⟨(some 67), none, .f (.iadr 11 (.t 65) (.t 66))⟩,
      ⟨(some 68), none, .f (.ldA 11 (.t 67))⟩,
      ⟨(some 69), none, .f (.mv (.t 8))⟩,
      ⟨(some 70), none, .x (.call 19 [(.t 68), (.t 69)])⟩,
      ⟨(some 64), none, .f (.mv (.t 70))⟩,
      ⟨(some 71), none, .f (.ext 0 (.t 64))⟩,
      ⟨(some 72), none, .f (.ext 1 (.t 64))⟩,
      ⟨(some 11), none, .f (.mv (.t 71))⟩,
      ⟨(some 12), none, .f (.mv (.t 72))⟩])
    (.seq (.seq (.reg [
      ⟨(some 73), none, .f (.mv (.t 12))⟩,
      ⟨(some 74), none, .f (.bin .neq (.t 73) (.c (.int .i64 0)))⟩])
    (.cond (.t 74)
     (.seq (.reg [
       ⟨(some 2), none, .f (.mv (.c (.bool false)))⟩])
     .ret)
     .skip))
    (.reg [
      ⟨(some 75), none, .f (.mv (.t 9))⟩,
      ⟨(some 76), none, .f (.mv (.t 11))⟩,
      ⟨(some 77), none, .x (.app 44 11 112 (.t 75) (.t 76))⟩,
      ⟨(some 9), none, .f (.mv (.t 77))⟩])))))
   (.reg [
     ⟨(some 42), none, .f (.mv (.t 10))⟩,
     ⟨(some 43), none, .f (.bin .add (.t 42) (.c (.int .i64 1)))⟩,
     ⟨(some 10), none, .f (.mv (.t 43))⟩]))))))
 (.seq (.reg [
   ⟨(some 78), none, .f (.mv (.t 9))⟩,
   ⟨(some 79), none, .x (.call 21 [(.t 3), (.t 78)])⟩,
   ⟨(some 9), none, .f (.mv (.t 79))⟩])
 (.seq (.reg [
   ⟨(some 81), none, .f (.mv (.t 9))⟩,
   ⟨(some 82), none, .x (.call 20 [(.t 81)])⟩,
   ⟨(some 83), none, .x (.call 10 [(.t 82)])⟩,
   ⟨(some 80), none, .f (.mv (.t 83))⟩,
   ⟨(some 84), none, .f (.ext 0 (.t 80))⟩,
   ⟨(some 85), none, .f (.ext 1 (.t 80))⟩,
   ⟨(some 13), none, .f (.mv (.t 84))⟩,
   ⟨(some 14), none, .f (.mv (.t 85))⟩])
 (.seq (.seq (.reg [
   ⟨(some 86), none, .f (.mv (.t 14))⟩,
   ⟨(some 87), none, .f (.bin .neq (.t 86) (.c (.int .i64 0)))⟩,
   ⟨(some 88), none, .f (.mv (.t 87))⟩,
   ⟨(some 89), (some (88, false)), .f (.mv (.t 13))⟩,
   ⟨(some 90), (some (88, false)), .f (.len (.t 89))⟩,
   ⟨(some 91), (some (88, false)), .f (.mv (.t 9))⟩,
   ⟨(some 92), (some (88, false)), .f (.len (.t 91))⟩,
   ⟨(some 93), (some (88, false)), .f (.bin .neq (.t 90) (.t 92))⟩,
   ⟨(some 94), none, .f (.pick (.t 88) (.c (.bool true)) (.t 93))⟩,
   ⟨(some 95), none, .f (.mv (.t 94))⟩,
   ⟨(some 96), (some (95, false)), .f (.mv (.t 9))⟩,
   ⟨(some 97), (some (95, false)), .f (.len (.t 96))⟩,
   ⟨(some 98), (some (95, false)), .f (.bin .eql (.t 97) (.c (.int .i64 0)))⟩,
   ⟨(some 99), none, .f (.pick (.t 95) (.c (.bool true)) (.t 98))⟩])
 (.cond (.t 99)
  (.seq (.reg [
    ⟨(some 2), none, .f (.mv (.c (.bool false)))⟩])
  .ret)
  .skip))
 (.seq (.seq (.reg [
   ⟨(some 15), none, .f (.mv (.c (.int .i64 0)))⟩])
 (.block 2 (.loop (.seq (.seq (.reg [
     ⟨(some 100), none, .f (.mv (.t 15))⟩,
     ⟨(some 101), none, .f (.mv (.t 13))⟩,
     ⟨(some 102), none, .f (.len (.t 101))⟩,
     ⟨(some 103), none, .f (.bin .lss (.t 100) (.t 102))⟩])
   (.cond (.t 103)
    .skip
    (.exit 2)))
   (.seq (.block 3 (.seq (.reg [
      ⟨(some 106), none, .f (.mv (.t 13))⟩,
      ⟨(some 107), none, .f (.mv (.t 15))⟩,
      ⟨(some 108), none, .f (.iadr 16 (.t 106) (.t 107))⟩,
      ⟨(some 109), none, .f (.fadr 0 (.t 108))⟩,
      ⟨(some 110), none, .f (.ld (.t 109))⟩,
      ⟨(some 111), none, .f (.bin .neq (.t 110) (.c (.int .i64 0)))⟩,
      ⟨(some 112), none, .f (.mv (.t 111))⟩,
      ⟨(some 113), (some (112, false)), .f (.mv (.t 13))⟩,
      ⟨(some 114), (some (112, false)), .f (.mv (.t 15))⟩,
      ⟨(some 115), (some (112, false)), .f (.iadr 16 (.t 113) (.t 114))⟩,
      ⟨(some 116), (some (112, false)), .f (.fadr 1 (.t 115))⟩,
      ⟨(some 117), (some (112, false)), .f (.ld (.t 116))⟩,
      ⟨(some 118), (some (112, false)), .f (.mv (.t 15))⟩,
      ⟨(some 119), (some (112, false)), .f (.mv (.t 13))⟩,
      ⟨(some 120), (some (112, false)), .f (.len (.t 119))⟩,
      ⟨(some 121), (some (112, false)), .f (.bin .sub (.t 120) (.c (.int .i64 1)))⟩,
      ⟨(some 122), (some (112, false)), .f (.bin .eql (.t 118) (.t 121))⟩,
      ⟨(some 123), (some (112, false)), .f (.binB true (.t 117) (.t 122))⟩,
      ⟨(some 124), none, .f (.pick (.t 112) (.c (.bool true)) (.t 123))⟩])
    (.cond (.t 124)
     (.seq (.reg [
       ⟨(some 2), none, .f (.mv (.c (.bool false)))⟩])
     .ret)
     .skip)))
   (.reg [
     ⟨(some 104), none, .f (.mv (.t 15))⟩,
     ⟨(some 105), none, .f (.bin .add (.t 104) (.c (.int .i64 1)))⟩,
     ⟨(some 15), none, .f (.mv (.t 105))⟩]))))))
 (.seq (.reg [
   ⟨(some 125), none, .f (.mv (.t 13))⟩,
   ⟨(some 126), none, .f (.mv (.t 13))⟩,
   ⟨(some 127), none, .f (.len (.t 126))⟩,
   ⟨(some 128), none, .f (.bin .sub (.t 127) (.c (.int .i64 1)))⟩,
   ⟨(some 129), none, .f (.iadr 16 (.t 125) (.t 128))⟩,
   ⟨(some 130), none, .f (.ldA 16 (.t 129))⟩,
   ⟨(some 16), none, .x (.zero 52 16 [(.int .i64 0), (.bool false), (.int .i64 0), (.int .i64 0), (.bool false), (.bool false), (.int .i64 0), (.int .i64 0), (.int .i64 0), (.int .i64 0), (.int .i64 0), .nilslice, .nilslice, .nilslice, (.int .i64 0), (.int .i64 0)])⟩,
   ⟨none, none, .x (.st 16 (.t 16) (.t 130))⟩])
 (.seq (.reg [
   ⟨(some 131), none, .f (.fadr 2 (.t 16))⟩,
   ⟨(some 132), none, .f (.ldA 11 (.t 131))⟩,
   ⟨(some 133), none, .f (.ldA 11 (.t 4))⟩,
   ⟨(some 134), none, .x (.call 22 [(.t 132), (.t 133)])⟩,
   ⟨(some 135), none, .f (.mv (.t 134))⟩,
   ⟨(some 136), (some (135, true)), .f (.fadr 14 (.t 16))⟩,
   ⟨(some 137), (some (135, true)), .f (.ld (.t 136))⟩,
   ⟨(some 138), (some (135, true)), .f (.bin .eql (.t 137) (.c (.int .i64 0)))⟩,
   ⟨(some 139), none, .f (.pick (.t 135) (.t 138) (.c (.bool false)))⟩,
   ⟨(some 140), none, .f (.mv (.t 139))⟩,
   ⟨(some 141), (some (140, true)), .f (.fadr 15 (.t 16))⟩,
   ⟨(some 142), (some (140, true)), .f (.ld (.t 141))⟩,
   ⟨(some 143), (some (140, true)), .f (.bin .eql (.t 142) (.c (.int .i64 0)))⟩,
   ⟨(some 144), none, .f (.pick (.t 140) (.t 143) (.c (.bool false)))⟩,
   ⟨(some 2), none, .f (.mv (.t 144))⟩])
 .ret))))))))))))))))
def c6 : CC :=
 (.seq (.reg [
   ⟨(some 2), none, .f (.mv (.c (.bool false)))⟩])
 (.seq (.seq (.reg [
   ⟨(some 15), none, .f (.mv (.t 0))⟩,
   ⟨(some 16), none, .f (.len (.t 15))⟩,
   ⟨(some 17), none, .f (.bin .gtr (.t 16) (.c (.int .i64 1048576)))⟩])
 (.cond (.t 17)
  (.seq (.reg [
    ⟨(some 2), none, .f (.mv (.c (.bool true)))⟩])
  .ret)
  .skip))
 (.seq (.reg [
   ⟨(some 18), none, .f (.mv (.t 0))⟩,
   ⟨(some 19), none, .x (.call 16 [(.t 18), (.c (.int .u64 9))])⟩,
   ⟨(some 3), none, .x (.zero 37 3 [.nilslice, (.int .i64 0), (.int .u64 0)])⟩,
   ⟨none, none, .x (.st 3 (.t 3) (.t 19))⟩])
 (.seq (.reg [
   ⟨(some 20), none, .x (.call 18 [(.t 3), (.c (.int .i64 5))])⟩,
   ⟨(some 4), none, .x (.zero 44 11 [(.int .i64 0), (.int .i64 0), (.bool false), (.bool false), (.int .i64 0), (.int .i64 0), (.int .i64 0), (.int .i64 0), (.int .i64 0), .nilslice, .nilslice])⟩,
   ⟨none, none, .x (.st 11 (.t 4) (.t 20))⟩])
 (.seq (.reg [
   ⟨(some 21), none, .f (.fadr 9 (.t 4))⟩,
   ⟨none, none, .x (.st 1 (.t 21) (.c .nilslice))⟩])
 (.seq (.reg [
   ⟨(some 22), none, .x (.call 17 [(.t 3), (.c (.int .i64 999))])⟩,
   ⟨(some 23), none, .x (.call 17 [(.t 3), (.c (.int .i64 300))])⟩,
   ⟨(some 24), none, .f (.bin .add (.c (.int .i64 120)) (.t 23))⟩,
   ⟨(some 25), none, .x (.call 25 [(.t 22), (.t 24)])⟩,
   ⟨(some 26), none, .f (.fadr 10 (.t 4))⟩,
   ⟨none, none, .x (.st 1 (.t 26) (.t 25))⟩])
 (.seq (.dreg [
   ⟨(some 28), none, .f (.ldA 11 (.t 4))⟩,
   ⟨(some 29), none, .x (.call 17 [(.t 3), (.c (.int .i64 30))])⟩,
   ⟨(some 30), none, .f (.bin .add (.c (.int .i64 68)) (.t 29))⟩,
   ⟨(some 31), none, .x (.call 19 [(.t 28), (.t 30)])⟩,
   ⟨(some 27), none, .f (.mv (.t 31))⟩,
   ⟨(some 32), none, .f (.ext 0 (.t 27))⟩,
   ⟨(some 33), none, .f (.ext 1 (.t 27))⟩,
   ⟨(some 5), none, .f (.mv (.t 32))⟩,
   ⟨(some 6), none, .f (.mv (.t 33))⟩]
   [false, true, false, true, false, false, false, false, false] [[], [], [1], [0, 2, 1], [3, 0, 2, 1], [4, 3, 0, 2, 1], [4, 3, 0, 2, 1], [5, 4, 3, 0, 2, 1], [6, 4, 3, 0, 2, 1, 7, 5]] [0, 1, 2, 3, 4, 5, 6, 7, 8])
 (.seq (.seq (.reg [
   ⟨(some 34), none, .f (.mv (.t 6))⟩,
   ⟨(some 35), none, .f (.bin .neq (.t 34) (.c (.int .i64 0)))⟩,
   ⟨(some 36), none, .f (.mv (.t 35))⟩,
   ⟨(some 37), (some (36, false)), .f (.mv (.t 5))⟩,
   ⟨(some 38), (some (36, false)), .f (.len (.t 37))⟩,
   ⟨(some 39), (some (36, false)), .f (.bin .lss (.t 38) (.c (.int .i64 2)))⟩,
   ⟨(some 40), none, .f (.pick (.t 36) (.c (.bool true)) (.t 39))⟩])
 (.cond (.t 40)
  (.seq (.reg [
    ⟨(some 2), none, .f (.mv (.c (.bool false)))⟩])
  .ret)
  .skip))
 (.seq (.reg [
   ⟨(some 41), none, .f (.mv (.t 5))⟩,
   ⟨(some 42), none, .x (.call 21 [(.t 3), (.t 41)])⟩,
   ⟨(some 5), none, .f (.mv (.t 42))⟩])
 (.seq (.reg [
   ⟨(some 43), none, .f (.mv (.t 5))⟩,
   ⟨(some 44), none, .f (.mv (.t 5))⟩,
   ⟨(some 45), none, .f (.len (.t 44))⟩,
   ⟨(some 46), none, .f (.bin .sub (.t 45) (.c (.int .i64 1)))⟩,
   ⟨(some 47), none, .x (.call 17 [(.t 3), (.t 46)])⟩,
   ⟨(some 48), none, .f (.iadr 11 (.t 43) (.t 47))⟩,
   ⟨(some 49), none, .f (.ldA 11 (.t 48))⟩,
   ⟨(some 7), none, .x (.zero 44 11 [(.int .i64 0), (.int .i64 0), (.bool false), (.bool false), (.int .i64 0), (.int .i64 0), (.int .i64 0), (.int .i64 0), (.int .i64 0), .nilslice, .nilslice])⟩,
   ⟨none, none, .x (.st 11 (.t 7) (.t 49))⟩])
 (.seq (.reg [
   ⟨(some 50), none, .x (.bslice 5 1 [(.int .u8 0)] 0 [])⟩,
   ⟨(some 51), none, .f (.fadr 10 (.t 7))⟩,
   ⟨(some 52), none, .f (.ld (.t 51))⟩,
   ⟨(some 53), none, .f (.fadr 10 (.t 7))⟩,
   ⟨(some 54), none, .f (.ld (.t 53))⟩,
   ⟨(some 55), none, .f (.len (.t 54))⟩,
   ⟨(some 56), none, .f (.bin .sub (.t 55) (.c (.int .i64 1)))⟩,
   ⟨(some 57), none, .f (.slc 1 (.t 52) none (some (.t 56)) none)⟩,
   ⟨(some 58), none, .x (.app 5 1 1 (.t 50) (.t 57))⟩,
   ⟨(some 59), none, .f (.fadr 10 (.t 7))⟩,
   ⟨none, none, .x (.st 1 (.t 59) (.t 58))⟩])
 (.seq (.reg [
   ⟨(some 60), none, .f (.fadr 3 (.t 7))⟩,
   ⟨none, none, .x (.st 1 (.t 60) (.c (.bool false)))⟩])
 (.seq (.seq (.reg [
   ⟨(some 61), none, .x (.call 17 [(.t 3), (.c (.int .i64 2))])⟩,
   ⟨(some 62), none, .f (.bin .eql (.t 61) (.c (.int .i64 0)))⟩,
   ⟨(some 63), none, .f (.mv (.t 62))⟩,
   ⟨(some 64), (some (63, false)), .f (.fadr 10 (.t 7))⟩,
   ⟨(some 65), (some (63, false)), .f (.ld (.t 64))⟩,
   ⟨(some 66), (some (63, false)), .f (.len (.t 65))⟩,
   ⟨(some 67), (some (63, false)), .f (.bin .eql (.t 66) (.c (.int .i64 0)))⟩,
   ⟨(some 68), none, .f (.pick (.t 63) (.c (.bool true)) (.t 67))⟩,
   ⟨(some 69), none, .f (.mv (.t 68))⟩,
   ⟨(some 70), (some (69, false)), .f (.fadr 4 (.t 7))⟩,
   ⟨(some 71), (some (69, false)), .f (.ld (.t 70))⟩,
   ⟨(some 72), (some (69, false)), .f (.bin .eql (.t 71) (.c (.int .i64 0)))⟩,
   ⟨(some 73), none, .f (.pick (.t 69) (.c (.bool true)) (.t 72))⟩])
 (.cond (.t 73)
  (.seq (.reg [
    ⟨(some 74), none, .f (.fadr 10 (.t 7))⟩,
    ⟨(some 75), none, .f (.ld (.t 74))⟩,
    ⟨(some 76), none, .f (.len (.t 75))⟩,
    ⟨(some 77), none, .f (.bin .quo (.t 76) (.c (.int .i64 8)))⟩,
    ⟨(some 78), none, .f (.bin .mul (.c (.int .i64 8)) (.t 77))⟩,
    ⟨(some 79), none, .f (.bin .add (.t 78) (.c (.int .i64 8)))⟩,
    ⟨(some 80), none, .x (.call 25 [(.c (.int .i64 0)), (.t 79)])⟩,
    ⟨(some 81), none, .f (.fadr 10 (.t 7))⟩,
    ⟨none, none, .x (.st 1 (.t 81) (.t 80))⟩])
  (.seq (.reg [
    ⟨(some 82), none, .f (.fadr 3 (.t 7))⟩,
    ⟨none, none, .x (.st 1 (.t 82) (.c (.bool true)))⟩])
  (.seq (.reg [
    ⟨(some 83), none, .f (.fadr 4 (.t 7))⟩,
    ⟨(some 84), none, .f (.ld (.t 83))⟩,
    ⟨(some 85), none, .f (.bin .add (.t 84) (.c (.int .i64 8)))⟩,
    ⟨(some 86), none, .f (.fadr 4 (.t 7))⟩,
    ⟨none, none, .x (.st 1 (.t 86) (.t 85))⟩])
  (.seq (.reg [
    ⟨(some 87), none, .f (.fadr 10 (.t 7))⟩,
    ⟨(some 88), none, .f (.ld (.t 87))⟩,
    ⟨(some 89), none, .f (.len (.t 88))⟩,
    ⟨(some 90), none, .f (.bin .lss (.t 89) (.c (.int .i64 16)))⟩])
  (.cond (.t 90)
   (.seq (.reg [
     ⟨(some 91), none, .x (.call 25 [(.c (.int .i64 0)), (.c (.int .i64 16))])⟩,
     ⟨(some 92), none, .f (.fadr 10 (.t 7))⟩,
     ⟨none, none, .x (.st 1 (.t 92) (.t 91))⟩])
   (.reg [
     ⟨(some 93), none, .f (.fadr 4 (.t 7))⟩,
     ⟨(some 94), none, .f (.ld (.t 93))⟩,
     ⟨(some 95), none, .f (.bin .sub (.t 94) (.c (.int .i64 16)))⟩,
     ⟨(some 96), none, .f (.fadr 4 (.t 7))⟩,
     ⟨none, none, .x (.st 1 (.t 96) (.t 95))⟩]))
   .skip)))))
  .skip))
 (.seq (.seq (.reg [
   ⟨(some 97), none, .f (.fadr 4 (.t 7))⟩,
   ⟨(some 98), none, .f (.ld (.t 97))⟩,
   ⟨(some 99), none, .f (.bin .lss (.t 98) (.c (.int .i64 0)))⟩])
 (.cond (.t 99)
  (.seq (.reg [
    ⟨(some 100), none, .f (.fadr 4 (.t 7))⟩,
    ⟨none, none, .x (.st 1 (.t 100) (.c (.int .i64 0)))⟩])
  (.reg [
    ⟨(some 101), none, .x (.call 25 [(.c (.int .i64 0)), (.c (.int .i64 16))])⟩,
    ⟨(some 102), none, .f (.fadr 10 (.t 7))⟩,
    ⟨none, none, .x (.st 1 (.t 102) (.t 101))⟩]))
  .skip))
 (.seq (.reg [
   ⟨(some 103), none, .f (.mv (.t 5))⟩,
   ⟨(some 104), none, .f (.mv (.t 5))⟩,
   ⟨(some 105), none, .f (.len (.t 104))⟩,
   ⟨(some 106), none, .f (.bin .sub (.t 105) (.c (.int .i64 1)))⟩,
   ⟨(some 107), none, .f (.slc 11 (.t 103) none (some (.t 106)) none)⟩,
   ⟨(some 108), none, .x (.call 20 [(.t 107)])⟩,
   ⟨(some 8), none, .f (.mv (.t 108))⟩])
 (.seq (.reg [
   ⟨(some 109), none, .f (.mv (.t 8))⟩,
   ⟨(some 110), none, .f (.ldA 11 (.t 7))⟩,
   ⟨(some 111), none, .x (.bslice 44 11 [(.int .i64 0), (.int .i64 0), (.bool false), (.bool false), (.int .i64 0), (.int .i64 0), (.int .i64 0), (.int .i64 0), (.int .i64 0), .nilslice, .nilslice] 1 [(0, (.t 110))])⟩,
   ⟨(some 112), none, .x (.call 20 [(.t 111)])⟩,
   ⟨(some 113), none, .x (.app 58 13 128 (.t 109) (.t 112))⟩,
   ⟨(some 8), none, .f (.mv (.t 113))⟩])
 (.seq (.reg [
   ⟨(some 114), none, .f (.mv (.t 8))⟩,
   ⟨(some 115), none, .f (.mv (.t 5))⟩,
   ⟨(some 116), none, .f (.mv (.t 5))⟩,
   ⟨(some 117), none, .f (.len (.t 116))⟩,
   ⟨(some 118), none, .f (.bin .sub (.t 117) (.c (.int .i64 1)))⟩,
   ⟨(some 119), none, .f (.slc 11 (.t 115) (some (.t 118)) none none)⟩,
   ⟨(some 120), none, .x (.call 20 [(.t 119)])⟩,
   ⟨(some 121), none, .x (.app 58 13 128 (.t 114) (.t 120))⟩,
   ⟨(some 8), none, .f (.mv (.t 121))⟩])
 (.seq (.reg [
   ⟨(some 122), none, .f (.mv (.t 8))⟩,
   ⟨(some 123), none, .f (.build [(.int .i64 0), (.int .i64 0), (.int .i64 0), (.int .i64 0), (.bool false), (.bool false), (.int .i64 0), (.int .i64 0), (.int .i64 0), (.int .i64 0), (.int .i64 0), .nilslice, .nilslice] [(0, 1, (.c (.int .i64 2))), (1, 1, (.c (.int .i64 30000)))])⟩,
   ⟨(some 124), none, .x (.bslice 58 13 [(.int .i64 0), (.int .i64 0), (.int .i64 0), (.int .i64 0), (.bool false), (.bool false), (.int .i64 0), (.int .i64 0), (.int .i64 0), (.int .i64 0), (.int .i64 0), .nilslice, .nilslice] 1 [(0, (.t 123))])⟩,
   ⟨(some 125), none, .x (.app 58 13 128 (.t 122) (.t 124))⟩,
   ⟨(some 8), none, .f (.mv (.t 125))⟩])
 (.seq (.reg [
   ⟨(some 126), none, .f (.mv (.t 8))⟩,
   ⟨(some 127), none, .f (.mv (.t 5))⟩,
   ⟨(some 128), none, .x (.call 20 [(.t 127)])⟩,
   ⟨(some 129), none, .x (.app 58 13 128 (.t 126) (.t 128))⟩,
   ⟨(some 8), none, .f (.mv (.t 129))⟩])
 (.seq (.reg [
   ⟨(some 131), none, .f (.mv (.t 8))⟩,
   ⟨(some 132), none, .x (.call 8 [(.t 131)])⟩,
   ⟨(some 130), none, .f (.mv (.t 132))⟩,
   ⟨(some 133), none, .f (.ext 0 (.t 130))⟩,
   ⟨(some 134), none, .f (.ext 1 (.t 130))⟩,
   ⟨(some 9), none, .f (.mv (.t 133))⟩,
   ⟨(some 10), none, .f (.mv (.t 134))⟩])
 (.seq (.reg [
   ⟨(some 136), none, .f (.mv (.t 8))⟩,
   ⟨(some 137), none, .x (.call 10 [(.t 136)])⟩,
   ⟨(some 135), none, .f (.mv (.t 137))⟩,
   ⟨(some 138), none, .f (.ext 0 (.t 135))⟩,
   ⟨(some 139), none, .f (.ext 1 (.t 135))⟩,
   ⟨(some 11), none, .f (.mv (.t 138))⟩,
   ⟨(some 12), none, .f (.mv (.t 139))⟩])
 (.seq (.seq (.reg [
   ⟨(some 140), none, .f (.mv (.t 12))⟩,
   ⟨(some 141), none, .f (.bin .neq (.t 140) (.c (.int .i64 0)))⟩,
   ⟨(some 142), none, .f (.mv (.t 141))⟩,
   ⟨(some 143), (some (142, false)), .f (.mv (.t 11))⟩,
   ⟨(some 144), (some (142, false)), .f (.len (.t 143))⟩,
   ⟨(some 145), (some (142, false)), .f (.mv (.t 8))⟩,
   ⟨(some 146), (some (142, false)), .f (.len (.t 145))⟩,
   ⟨(some 147), (some (142, false)), .f (.bin .neq (.t 144) (.t 146))⟩,
   ⟨(some 148), none, .f (.pick (.t 142) (.c (.bool true)) (.t 147))⟩])
 (.cond (.t 148)
  (.seq (.reg [
    ⟨(some 2), none, .f (.mv (.c (.bool false)))⟩])
  .ret)
  .skip))
 (.seq (.seq (.reg [
   ⟨(some 13), none, .f (.mv (.c (.int .i64 0)))⟩])
 (.block 0 (.loop (.seq (.seq (.reg [
     ⟨(some 149), none, .f (.mv (.t 13))⟩,
     ⟨(some 150), none, .f (.mv (.t 11))⟩,
     ⟨(some 151), none, .f (.len (.t 150))⟩,
     ⟨(some 152), none, .f (.bin .sub (.t 151) (.c (.int .i64 1)))⟩,
     ⟨(some 153), none, .f (.bin .lss (.t 149) (.t 152))⟩])
   (.cond (.t 153)
    .skip
    (.exit 0)))
   (.seq (.block 1 (.seq (.dreg [
      ⟨(some 156), none, .f (.mv (.t 11))⟩,
      ⟨(some 157), none, .f (.mv (.t 13))⟩,
      ⟨(some 158), none, .f (.iadr 16 (.t 156) (.t 157))⟩,
      ⟨(some 159), none, .f (.fadr 1 (.t 158))⟩,
      ⟨(some 160), none, .f (.ld (.t 159))⟩,
      ⟨(some 161), none, .f (.mv (.t 160))⟩,
      ⟨(some 162), (some (161, false)), .f (.mv (.t 11))⟩,
      ⟨(some 163), (some (161, false)), .f (.mv (.t 13))⟩,
      ⟨(some 164), (some (161, false)), .f (.iadr 16 (.t 162) (.t 163))⟩,
      ⟨(some 165), (some (161, false)), .f (.fadr 15 (.t 164))⟩,
      ⟨(some 166), (some (161, false)), .f (.ld (.t 165))⟩,
      ⟨(some 167), (some (161, false)), .f (.mv (.t 9))⟩,
      ⟨(some 168), (some (161, false)), .f (.mv (.t 13))⟩,
      ⟨(some 169), (some (161, false)), .f (.iadr 16 (.t 167) (.t 168))⟩,
      ⟨(some 170), (some (161, false)), .f (.fadr 15 (.t 169))⟩,
      ⟨(some 171), (some (161, false)), .f (.ld (.t 170))⟩,
      ⟨(some 172), (some (161, false)), .f (.bin .neq (.t 166) (.t 171))⟩,
      ⟨(some 173), none, .f (.pick (.t 161) (.c (.bool true)) (.t 172))⟩,
      ⟨(some 174), none, .f (.mv (.t 173))⟩,
      ⟨(some 175), (some (174, false)), .f (.mv (.t 11))⟩,
      ⟨(some 176), (some (174, false)), .f (.mv (.t 13))⟩,
      ⟨(some 177), (some (174, false)), .f (.iadr 16 (.t 175) (.t 176))⟩,
      ⟨(some 178), (some (174, false)), .f (.fadr 14 (.t 177))⟩,
      ⟨(some 179), (some (174, false)), .f (.ld (.t 178))⟩,
      ⟨(some 180), (some (174, false)), .f (.mv (.t 9))⟩,
      ⟨(some 181), (some (174, false)), .f (.mv (.t 13))⟩,
      ⟨(some 182), (some (174, false)), .f (.iadr 16 (.t 180) (.t 181))⟩,
      ⟨(some 183), (some (174, false)), .f (.fadr 14 (.t 182))⟩,
      ⟨(some 184), (some (174, false)), .f (.ld (.t 183))⟩,
      ⟨(some 185), (some (174, false)), .f (.bin .neq (.t 179) (.t 184))⟩,
      ⟨(some 186), none, .f (.pick (.t 174) (.c (.bool true)) (.t 185))⟩]
      [false, false, false, false, false, false, false, false, false, false, false, false, false, false, false, false, false, false, false, false, false, false, false, false, false, false, false, false, false, false, false] [[], [], [0, 1], [2, 0, 1], [3, 2, 0, 1], [4, 3, 2, 0, 1], [5, 4, 3, 2, 0, 1], [5, 4, 3, 2, 0, 1], [6, 5, 4, 3, 2, 0, 1, 7], [8, 6, 5, 4, 3, 2, 0, 1, 7], [9, 8, 6, 5, 4, 3, 2, 0, 1, 7], [5, 4, 3, 2, 0, 1], [5, 4, 3, 2, 0, 1], [11, 5, 4, 3, 2, 0, 1, 12], [13, 11, 5, 4, 3, 2, 0, 1, 12], [14, 13, 11, 5, 4, 3, 2, 0, 1, 12], [10, 9, 8, 6, 5, 4, 3, 2, 0, 1, 7, 15, 14, 13, 11, 12], [5, 4, 3, 2, 0, 1, 16, 10, 9, 8, 6, 7, 15, 14, 13, 11, 12], [17, 5, 4, 3, 2, 0, 1, 16, 10, 9, 8, 6, 7, 15, 14, 13, 11, 12], [18, 17, 5, 4, 3, 2, 0, 1, 16, 10, 9, 8, 6, 7, 15, 14, 13, 11, 12], [18, 17, 5, 4, 3, 2, 0, 1, 16, 10, 9, 8, 6, 7, 15, 14, 13, 11, 12], [19, 18, 17, 5, 4, 3, 2, 0, 1, 16, 10, 9, 8, 6, 7, 15, 14, 13, 11, 12, 20], [21, 19, 18, 17, 5, 4, 3, 2, 0, 1, 16, 10, 9, 8, 6, 7, 15, 14, 13, 11, 12, 20], [22, 21, 19, 18, 17, 5, 4, 3, 2, 0, 1, 16, 10, 9, 8, 6, 7, 15, 14, 13, 11, 12, 20], [18, 17, 5, 4, 3, 2, 0, 1, 16, 10, 9, 8, 6, 7, 15, 14, 13, 11, 12], [18, 17, 5, 4, 3, 2, 0, 1, 16, 10, 9, 8, 6, 7, 15, 14, 13, 11, 12], [24, 18, 17, 5, 4, 3, 2, 0, 1, 16, 10, 9, 8, 6, 7, 15, 14, 13, 11, 12, 25], [26, 24, 18, 17, 5, 4, 3, 2, 0, 1, 16, 10, 9, 8, 6, 7, 15, 14, 13, 11, 12, 25], [27, 26, 24, 18, 17, 5, 4, 3, 2, 0, 1, 16, 10, 9, 8, 6, 7, 15, 14, 13, 11, 12, 25], [23, 22, 21, 19, 18, 17, 5, 4, 3, 2, 0, 1, 16, 10, 9, 8, 6, 7, 15, 14, 13, 11, 12, 20, 28, 27, 26, 24, 25], [18, 17, 5, 4, 3, 2, 0, 1, 16, 10, 9, 8, 6, 7, 15, 14, 13, 11, 12, 29, 23, 22, 21, 19, 20, 28, 27, 26, 24, 25]] [0, 1, 2, 3, 4, 5, 6, 7, 8, 9, 10, 11, 12, 13, 14, 15, 16, 17, 18, 19, 20, 21, 22, 23, 24, 25, 26, 27, 28, 29, 30])
    (.cond (.t 186)
     (.seq (.reg [
       ⟨(some 2), none, .f (.mv (.c (.bool false)))⟩])
     .ret)
     .skip)))
   (.reg [
     ⟨(some 154), none, .f (.mv (.t 13))⟩,
     ⟨(some 155), none, .f (.bin .add (.t 154) (.c (.int .i64 1)))⟩,
     ⟨(some 13), none, .f (.mv (.t 155))⟩]))))))
 (.seq (.reg [
   ⟨(some 187), none, .f (.mv (.t 5))⟩,
   ⟨(some 188), none, .f (.len (.t 187))⟩,
   ⟨(some 14), none, .f (.mv (.t 188))⟩])
 (.seq (.dreg [
   ⟨(some 189), none, .f (.mv (.t 11))⟩,
   ⟨(some 190), none, .f (.mv (.t 14))⟩,
   ⟨(some 191), none, .f (.iadr 16 (.t 189) (.t 190))⟩,
   ⟨(some 192), none, .f (.fadr 15 (.t 191))⟩,
   ⟨(some 193), none, .f (.ld (.t 192))⟩,
   ⟨(some 194), none, .f (.bin .eql (.t 193) (.c (.int .i64 0)))⟩,
   ⟨(some 195), none, .f (.mv (.t 194))⟩,
   ⟨(some 196), (some (195, true)), .f (.mv (.t 11))⟩,
   ⟨(some 197), (some (195, true)), .f (.mv (.t 14))⟩,
   ⟨(some 198), (some (195, true)), .f (.bin .add (.t 197) (.c (.int .i64 1)))⟩,
   ⟨(some 199), (some (195, true)), .f (.iadr 16 (.t 196) (.t 198))⟩,
   ⟨(some 200), (some (195, true)), .f (.fadr 14 (.t 199))⟩,
   ⟨(some 201), (some (195, true)), .f (.ld (.t 200))⟩,
   ⟨(some 202), (some (195, true)), .f (.bin .eql (.t 201) (.c (.int .i64 0)))⟩,
   ⟨(some 203), none, .f (.pick (.t 195) (.t 202) (.c (.bool false)))⟩,
   ⟨(some 204), none, .f (.mv (.t 203))⟩,
   ⟨(some 205), (some (204, true)), .f (.mv (.t 11))⟩,
   ⟨(some 206), (some (204, true)), .f (.mv (.t 11))⟩,
   ⟨(some 207), (some (204, true)), .f (.len (.t 206))⟩,
   ⟨(some 208), (some (204, true)), .f (.bin .sub (.t 207) (.c (.int .i64 1)))⟩,
   ⟨(some 209), (some (204, true)), .f (.iadr 16 (.t 205) (.t 208))⟩,
   ⟨(some 210), (some (204, true)), .f (.fadr 1 (.t 209))⟩,
   ⟨(some 211), (some (204, true)), .f (.ld (.t 210))⟩,
   ⟨(some 212), none, .f (.pick (.t 204) (.t 211) (.c (.bool false)))⟩,
   ⟨(some 213), none, .f (.mv (.t 212))⟩,
   ⟨(some 214), (some (213, true)), .f (.mv (.t 11))⟩,
   ⟨(some 215), (some (213, true)), .f (.mv (.t 11))⟩,
   ⟨(some 216), (some (213, true)), .f (.len (.t 215))⟩,
   ⟨(some 217), (some (213, true)), .f (.bin .sub (.t 216) (.c (.int .i64 1)))⟩,
   ⟨(some 218), (some (213, true)), .f (.iadr 16 (.t 214) (.t 217))⟩,
   ⟨(some 219), (some (213, true)), .f (.fadr 2 (.t 218))⟩,
   ⟨(some 220), (some (213, true)), .f (.ldA 11 (.t 219))⟩,
   ⟨(some 221), (some (213, true)), .f (.ldA 11 (.t 4))⟩,
   ⟨(some 222), (some (213, true)), .x (.call 22 [(.t 220), (.t 221)])⟩,
   ⟨(some 223), none, .f (.pick (.t 213) (.t 222) (.c (.bool false)))⟩,
   ⟨(some 2), none, .f (.mv (.t 223))⟩]
   [false, false, false, false, false, false, false, false, false, false, false, false, false, false, false, false, false, false, false, false, false, false, false, false, false, false, false, false, false, false, false, false, false, true, false, false] [[], [], [0, 1], [2, 0, 1], [3, 2, 0, 1], [4, 3, 2, 0, 1], [5, 4, 3, 2, 0, 1], [6, 5, 4, 3, 2, 0, 1], [6, 5, 4, 3, 2, 0, 1], [8, 6, 5, 4, 3, 2, 0, 1], [7, 6, 5, 4, 3, 2, 0, 1, 9, 8], [10, 7, 6, 5, 4, 3, 2, 0, 1, 9, 8], [11, 10, 7, 6, 5, 4, 3, 2, 0, 1, 9, 8], [12, 11, 10, 7, 6, 5, 4, 3, 2, 0, 1, 9, 8], [6, 5, 4, 3, 2, 0, 1, 13, 12, 11, 10, 7, 9, 8], [14, 6, 5, 4, 3, 2, 0, 1, 13, 12, 11, 10, 7, 9, 8], [15, 14, 6, 5, 4, 3, 2, 0, 1, 13, 12, 11, 10, 7, 9, 8], [15, 14, 6, 5, 4, 3, 2, 0, 1, 13, 12, 11, 10, 7, 9, 8], [17, 15, 14, 6, 5, 4, 3, 2, 0, 1, 13, 12, 11, 10, 7, 9, 8], [18, 17, 15, 14, 6, 5, 4, 3, 2, 0, 1, 13, 12, 11, 10, 7, 9, 8], [16, 15, 14, 6, 5, 4, 3, 2, 0, 1, 13, 12, 11, 10, 7, 9, 8, 19, 18, 17], [20, 16, 15, 14, 6, 5, 4, 3, 2, 0, 1, 13, 12, 11, 10, 7, 9, 8, 19, 18, 17], [21, 20, 16, 15, 14, 6, 5, 4, 3, 2, 0, 1, 13, 12, 11, 10, 7, 9, 8, 19, 18, 17], [15, 14, 6, 5, 4, 3, 2, 0, 1, 13, 12, 11, 10, 7, 9, 8, 22, 21, 20, 16, 19, 18, 17], [23, 15, 14, 6, 5, 4, 3, 2, 0, 1, 13, 12, 11, 10, 7, 9, 8, 22, 21, 20, 16, 19, 18, 17], [24, 23, 15, 14, 6, 5, 4, 3, 2, 0, 1, 13, 12, 11, 10, 7, 9, 8, 22, 21, 20, 16, 19, 18, 17], [24, 23, 15, 14, 6, 5, 4, 3, 2, 0, 1, 13, 12, 11, 10, 7, 9, 8, 22, 21, 20, 16, 19, 18, 17], [26, 24, 23, 15, 14, 6, 5, 4, 3, 2, 0, 1, 13, 12, 11, 10, 7, 9, 8, 22, 21, 20, 16, 19, 18, 17], [27, 26, 24, 23, 15, 14, 6, 5, 4, 3, 2, 0, 1, 13, 12, 11, 10, 7, 9, 8, 22, 21, 20, 16, 19, 18, 17], [25, 24, 23, 15, 14, 6, 5, 4, 3, 2, 0, 1, 13, 12, 11, 10, 7, 9, 8, 22, 21, 20, 16, 19, 18, 17, 28, 27, 26], [29, 25, 24, 23, 15, 14, 6, 5, 4, 3, 2, 0, 1, 13, 12, 11, 10, 7, 9, 8, 22, 21, 20, 16, 19, 18, 17, 28, 27, 26], [30, 29, 25, 24, 23, 15, 14, 6, 5, 4, 3, 2, 0, 1, 13, 12, 11, 10, 7, 9, 8, 22, 21, 20, 16, 19, 18, 17, 28, 27, 26], [24, 23, 15, 14, 6, 5, 4, 3, 2, 0, 1, 13, 12, 11, 10, 7, 9, 8, 22, 21, 20, 16, 19, 18, 17], [31, 30, 29, 25, 24, 23, 15, 14, 6, 5, 4, 3, 2, 0, 1, 13, 12, 11, 10, 7, 9, 8, 22, 21, 20, 16, 19, 18, 17, 28, 27, 26, 32], [24, 23, 15, 14, 6, 5, 4, 3, 2, 0, 1, 13, 12, 11, 10, 7, 9, 8, 22, 21, 20, 16, 19, 18, 17, 33, 31, 30, 29, 25, 28, 27, 26, 32], [34, 24, 23, 15, 14, 6, 5, 4, 3, 2, 0, 1, 13, 12, 11, 10, 7, 9, 8, 22, 21, 20, 16, 19, 18, 17, 33, 31, 30, 29, 25, 28, 27, 26, 32]] [0, 1, 2, 3, 4, 5, 6, 7, 8, 9, 10, 11, 12, 13, 14, 15, 16, 17, 18, 19, 20, 21, 22, 23, 24, 25, 26, 27, 28, 29, 30, 31, 32, 33, 34, 35])
 .ret)))))))))))))))))))))))))
theorem ok6 : fnComp Try.prog 6 = some (224, c6, [(.mv (.t 2))]) := by kernel_rfl

end Go.Proofs.Ytjmmmmdpkfpojaa

set_option maxRecDepth 20000
namespace Go.Proofs.Ytjmmmmdpkfpojaa
open Go Go.IW

theorem _root_.Go.IW.Sp.appAll {h : IH} {L : List As} {el sz b : Nat} {v : IV} {rs ys : List (List IV)} {K : HoldK} (hs : Sp h (sl false el sz v rs :: L)) (hb : (rs.length + ys.length) * b ≤ 140737488355328)
    (hk : ∀ v' h', Sp h' (sl false el sz v' (rs ++ ys) :: L) → v'.one = true → K.k v' h') : @appA h el sz b v (some ys) K := by
  cases ys with
  | nil =>
    have a := hs.slA 0 rfl
    exact appA_none a.len (hk _ _ (by rw [List.append_nil]; exact hs) a.one)
  | cons y ys => exact hs.app (by simp) hb fun v' h' S h1 _ => hk v' h' S h1
theorem WholeP.code {p : Pk} {id : Int} (h : WholeP p id) (h0 : 0 ≤ id) (h1 : id ≤ 65535) : codeB p = 0 := by
  have a1 := h.tos
  have a2 := h.id
  have a3 := h.off
  have a4 := h.ttl
  have a5 := h.proto
  have a6 := h.src
  have a7 := h.dst
  have a8 := h.o1
  have a9 := h.o2
  have a10 := h.p2
  have e : okIPb p = true := by
    unfold okIPb
    have e4 : ((p.opts.length : Int).tmod 4) = 0 := by rw [Int.tmod_eq_emod_of_nonneg (by omega)]; omega
    rw [a3, a6, a7, e4]
    simp only [Bool.and_eq_true, decide_eq_true_eq]
    refine ⟨⟨⟨⟨⟨⟨⟨⟨⟨⟨⟨⟨⟨⟨?_, ?_⟩, ?_⟩, ?_⟩, ?_⟩, ?_⟩, ?_⟩, ?_⟩, ?_⟩, ?_⟩, ?_⟩, ?_⟩, ?_⟩, ?_⟩, ?_⟩ <;> first | omega | rfl | trivial
  unfold codeB
  rw [if_neg (by simp [e]), if_neg (by omega)]
def InB (Rb : List (List IV)) (Pb : List Pk) (r : List IV) (p : Pk) : Prop := ∃ i : Nat, Rb[i]? = some r ∧ Pb[i]? = some p
theorem all2_mono {α β : Type} {R R' : α → β → Prop} (hR : ∀ a b, R a b → R' a b) : ∀ {xs : List α} {ys : List β}, All2 R xs ys → All2 R' xs ys
  | _, _, .nil => .nil
  | _, _, .cons h1 h2 => .cons (hR _ _ h1) (all2_mono hR h2)
theorem pks_bank {g : IH} {L : List As} {v : IV} {rs Rb : List (List IV)} {ps Pb : List Pk} (S : Sp g L) (j : Nat) (hj : L[j]? = some (all2 pkR Rb Pb)) (hs : SlR g 11 v rs) (h : All2 (InB Rb Pb) rs ps) : PksAt g v rs ps := by
  have : All2 (RowAt g) rs ps := all2_mono (fun r p hx => by
    obtain ⟨i, h1, h2⟩ := hx
    obtain ⟨vo, vp, e, a⟩ := pks_at S j hj h2
    rw [h1] at e
    exact ⟨vo, vp, Option.some.inj e, a⟩) h
  obtain ⟨h1, h2⟩ := all2_rows this
  exact ⟨hs, h1, h2⟩
theorem inb_all : ∀ {Rb : List (List IV)} {Pb : List Pk}, Rb.length = Pb.length → All2 (InB Rb Pb) Rb Pb
  | [], [], _ => .nil
  | r :: Rb, p :: Pb, h => .cons ⟨0, rfl, rfl⟩ (all2_mono (fun a b ⟨i, h1, h2⟩ => ⟨i + 1, by simpa using h1, by simpa using h2⟩) (inb_all (by simpa using h)))
structure Over (P q bad : Pk) : Prop where
  key : bad.src = P.src ∧ bad.dst = P.dst ∧ bad.proto = P.proto ∧ bad.id = P.id
  opts : bad.opts = []
  c : codeB bad = 0
  h1 : ¬ (bad.off = 0 ∧ bad.mf = false)
  h2 : ¬ (bad.pay = [] ∨ (bad.mf = true ∧ (bad.pay.length : Int).tmod 8 ≠ 0))
  o1 : ¬ (q.off = bad.off ∧ q.pay = bad.pay)
  o2 : q.off < bad.off + bad.pay.length
  o3 : bad.off < q.off + (q.pay.length : Int)
  len : bad.pay.length ≤ 700
  nn : 0 ≤ bad.off
  df : bad.id = 5
theorem over_code {P q bad : Pk} {F : List Pk} (hfam : Fam P F) (hq : q ∈ F) (h8 : ∃ c : Nat, bad.off = (c : Int) ∧ c % 8 = 0 ∧ c ≤ 1000) (hl : bad.pay.length ≤ 700) (ho : bad.opts = []) (he : bad.tos = q.tos ∧ bad.ttl = q.ttl ∧ bad.proto = q.proto ∧ bad.id = q.id ∧ bad.src = q.src ∧ bad.dst = q.dst) : codeB bad = 0 := by
  have hc := hfam.code hq
  obtain ⟨c, hc1, hc2, hc3⟩ := h8
  unfold codeB at hc
  split at hc
  · cases hc
  · rename_i h1
    have h1 : okIPb q = true := Bool.not_eq_false _ ▸ h1
    have h3 : okIPb bad = true := by
      unfold okIPb at h1 ⊢
      simp only [Bool.and_eq_true, decide_eq_true_eq] at h1 ⊢
      have e : (bad.off).tmod 8 = 0 := by rw [hc1, Int.tmod_eq_emod_of_nonneg (by omega)]; omega
      obtain ⟨e1, e2, e3, e4, e5, e6⟩ := he
      rw [e1, e2, e3, e4, e5, e6, ho]
      obtain ⟨⟨⟨⟨⟨⟨⟨⟨⟨⟨⟨⟨⟨⟨a1, a2⟩, a3⟩, a4⟩, a5⟩, a6⟩, a7⟩, a8⟩, a9⟩, a10⟩, a11⟩, a12⟩, a13⟩, a14⟩, a15⟩ := h1
      exact ⟨⟨⟨⟨⟨⟨⟨⟨⟨⟨⟨⟨⟨⟨a1, a2⟩, a3⟩, a4⟩, a5⟩, a6⟩, a7⟩, a8⟩, by omega⟩, by omega⟩, e⟩, a12⟩, a13⟩, by simp⟩, rfl⟩
    unfold codeB
    rw [if_neg (by simp [h3]), if_neg (by rw [ho]; simp only [ln0]; omega)]
theorem Cut.count {p : Pk} {R a : Nat} {F : List Pk} (h : Cut p R a F) : (F.length - 1) * (R / 8 * 8) + a < p.pay.length := by
  induction h with
  | last a h0 h1 => simpa using h0
  | more a h0 hr ih =>
    rename_i r
    have hne : r ≠ [] := by cases hr <;> simp
    have : 0 < r.length := List.length_pos_iff.2 hne
    simp only [lc0, Nat.add_sub_cancel]
    have : r.length * (R / 8 * 8) = (r.length - 1) * (R / 8 * 8) + R / 8 * 8 := by
      rw [← Nat.succ_mul]
      congr 1
      omega
    omega
theorem all2_len' {α β : Type} {R : α → β → Prop} : ∀ {xs : List α} {ys : List β}, All2 R xs ys → xs.length = ys.length
  | _, _, .nil => rfl
  | _, _, .cons _ h => by simp [all2_len' h]
theorem all2_get {α β : Type} {R : α → β → Prop} : ∀ {xs : List α} {ys : List β}, All2 R xs ys → ∀ {i : Nat} {x : α} {y : β}, xs[i]? = some x → ys[i]? = some y → R x y
  | _, _, .nil, i, x, y, h, _ => by simp at h
  | _, _, .cons h1 h2, 0, x, y, e1, e2 => by
    simp at e1 e2
    rw [← e1, ← e2]
    exact h1
  | _, _, .cons h1 h2, i + 1, x, y, e1, e2 => all2_get h2 (by simpa using e1) (by simpa using e2)
theorem runSt_len : ∀ (ops : List Op) (now : Int) (l : List Ms), (runSt now l ops).length = ops.length
  | [], _, _ => rfl
  | op :: ops, now, l => by simp only [runSt, lc0, runSt_len ops]
theorem Cut.offs {p : Pk} {R a : Nat} {F : List Pk} (h : Cut p R a F) : ∀ f ∈ F, p.off + (a : Int) ≤ f.off := by
  induction h with
  | last a h0 h1 =>
    intro f hf
    rw [List.mem_singleton.1 hf]
    exact Int.le_refl _
  | more a h0 hr ih =>
    intro f hf
    rcases List.mem_cons.1 hf with rfl | hf
    · exact Int.le_refl _
    · have := ih f hf
      omega
structure Six (P : Pk) (R : Nat) (fs ps : List Pk) (rs rs' : List (List IV)) (i : Nat) (q : Pk) (wo wp : IV) : Prop where
  w : WholeP P 5
  o : P.opts = []
  l1 : 120 ≤ P.pay.length
  l2 : P.pay.length ≤ 419
  cut : Cut P R 0 fs
  r1 : 48 ≤ R
  r2 : R ≤ 77
  pm : ps.Perm fs
  n : rs'.length = ps.length
  rows : All2 (InB rs fs) rs' ps
  hi : i + 1 < ps.length
  hq : ps[i]? = some q
  row : rs'[i]? = some (pkRow q wo wp)
theorem Cut.ne {p : Pk} {R a : Nat} {F : List Pk} (h : Cut p R a F) : F ≠ [] := by cases h <;> simp
theorem Cut.two {p : Pk} {R a : Nat} {F : List Pk} (h : Cut p R a F) (hl : R + a < p.pay.length) : 2 ≤ F.length := by
  cases h with
  | last _ h0 h1 => omega
  | more _ h0 hr =>
    have := List.length_pos_iff.2 hr.ne
    simp only [lc0]
    omega
theorem Six.fam {P : Pk} {R : Nat} {fs ps : List Pk} {rs rs' : List (List IV)} {i : Nat} {q : Pk} {wo wp : IV} (s : Six P R fs ps rs rs' i q wo wp) : Fam P fs :=
  ⟨s.w.off, s.w.mf, s.w.code (by omega) (by omega), s.cut.lay s.w.off s.w.mf (by have := s.r1; omega)⟩
theorem Six.piece {P : Pk} {R : Nat} {fs ps : List Pk} {rs rs' : List (List IV)} {i : Nat} {q : Pk} {wo wp : IV} (s : Six P R fs ps rs rs' i q wo wp) :
    q ∈ fs ∧ q.opts = [] ∧ 1 ≤ q.pay.length ∧ q.pay.length ≤ 77 ∧ (∃ c : Nat, q.off = (c : Int) ∧ c % 8 = 0 ∧ c ≤ 419) ∧ (q.off = 0 → 48 ≤ q.pay.length) ∧ q.src = P.src ∧ q.dst = P.dst ∧ q.proto = P.proto ∧ q.id = 5 := by
  have hq : q ∈ fs := s.pm.mem_iff.1 (List.mem_of_getElem? s.hq)
  have fam := s.fam
  obtain ⟨a, b, _, hF⟩ := fam.lay.frag q hq
  obtain ⟨c, hc, h8⟩ := fam.lay.m8 (by rfl) q hq
  have hl := hF.len
  have hab := hF.ab
  have hb := hF.hb
  have hoff : q.off = (a : Int) := by rw [hF.e]
  obtain ⟨k1, k2⟩ := s.cut.len q hq
  have l1 := s.l1
  have l2 := s.l2
  have r1 := s.r1
  have r2 := s.r2
  refine ⟨hq, by rw [k2, s.o], by omega, by omega, ⟨c, hc, h8, by omega⟩, fun h0 => ?_, by rw [hF.e], by rw [hF.e], by rw [hF.e], by rw [hF.e]; exact s.w.id⟩
  have hcut := s.cut
  cases hcut with
  | last _ h0 h1 => omega
  | more _ h0' hr =>
    rcases List.mem_cons.1 hq with e | hq'
    · rw [e]
      simp only [List.length_drop, List.length_take]
      omega
    · have := hr.offs q hq'
      rw [s.w.off] at this
      omega
theorem Six.overA {P : Pk} {R : Nat} {fs ps : List Pk} {rs rs' : List (List IV)} {i : Nat} {q : Pk} {wo wp : IV} (s : Six P R fs ps rs rs' i q wo wp) {B : List UInt8} (hB : B = q.pay.take (q.pay.length - 1)) (h0 : B ≠ []) (h1 : q.off ≠ 0) : Over P q { q with mf := false, pay := B } := by
  obtain ⟨a1, a2, a3, a4, ⟨c, a5, a6, a7⟩, a8, a9, a10, a11, a12⟩ := s.piece
  have hl : B.length = q.pay.length - 1 := by rw [hB, List.length_take]; omega
  have hp := List.length_pos_iff.2 h0
  refine ⟨⟨a9, a10, a11, by rw [s.w.id]; exact a12⟩, a2, ?_, fun h => h1 h.1, fun h => ?_, fun h => ?_, ?_, ?_, ?_, ?_, a12⟩
  · exact over_code s.fam a1 ⟨c, a5, a6, by omega⟩ (by show B.length ≤ 700; omega) a2 ⟨rfl, rfl, rfl, rfl, rfl, rfl⟩
  · rcases h with h | ⟨h, _⟩
    · exact h0 h
    · cases h
  · have := congrArg List.length h.2
    simp only at this
    omega
  · show q.off < q.off + (B.length : Int)
    omega
  · show q.off < q.off + (q.pay.length : Int)
    omega
  · show B.length ≤ 700
    omega
  · show 0 ≤ q.off
    omega
theorem Six.overB {P : Pk} {R : Nat} {fs ps : List Pk} {rs rs' : List (List IV)} {i : Nat} {q : Pk} {wo wp : IV} (s : Six P R fs ps rs rs' i q wo wp) {B : List UInt8} {k : Nat} (hB : B.length = 8 * k) (h16 : 16 ≤ B.length) (hk : B.length < q.pay.length + 8) : Over P q { q with mf := true, off := q.off + 8, pay := B } := by
  obtain ⟨a1, a2, a3, a4, ⟨c, a5, a6, a7⟩, a8, a9, a10, a11, a12⟩ := s.piece
  refine ⟨⟨a9, a10, a11, by rw [s.w.id]; exact a12⟩, a2, ?_, fun h => Bool.noConfusion h.2, fun h => ?_, fun h => ?_, ?_, ?_, ?_, ?_, a12⟩
  · exact over_code s.fam a1 ⟨c + 8, by show q.off + 8 = _; omega, by omega, by omega⟩ (by show B.length ≤ 700; omega) a2 ⟨rfl, rfl, rfl, rfl, rfl, rfl⟩
  · rcases h with h | ⟨_, h⟩
    · have h : B = [] := h
      rw [h] at h16; simp at h16
    · apply h
      show (B.length : Int).tmod 8 = 0
      rw [Int.tmod_eq_emod_of_nonneg (by omega)]
      omega
  · have h : q.off = q.off + 8 := h.1
    omega
  · show q.off < q.off + 8 + (B.length : Int)
    omega
  · show q.off + 8 < q.off + (q.pay.length : Int)
    omega
  · show B.length ≤ 700
    omega
  · show 0 ≤ q.off + 8
    omega
theorem Six.overC {P : Pk} {R : Nat} {fs ps : List Pk} {rs rs' : List (List IV)} {i : Nat} {q : Pk} {wo wp : IV} (s : Six P R fs ps rs rs' i q wo wp) {B : List UInt8} (hB : B.length = 16) (hk : q.pay.length ≤ 8) {off : Int} (ho : off = q.off - 8) : Over P q { q with mf := true, off := off, pay := B } := by
  obtain ⟨a1, a2, a3, a4, ⟨c, a5, a6, a7⟩, a8, a9, a10, a11, a12⟩ := s.piece
  have hne : q.off ≠ 0 := fun h => by have := a8 h; omega
  refine ⟨⟨a9, a10, a11, by rw [s.w.id]; exact a12⟩, a2, ?_, fun h => Bool.noConfusion h.2, fun h => ?_, fun h => ?_, ?_, ?_, ?_, ?_, a12⟩
  · exact over_code s.fam a1 ⟨c - 8, by show off = _; omega, by omega, by omega⟩ (by show B.length ≤ 700; omega) a2 ⟨rfl, rfl, rfl, rfl, rfl, rfl⟩
  · rcases h with h | ⟨_, h⟩
    · have h : B = [] := h
      rw [h] at hB; simp at hB
    · apply h
      show (B.length : Int).tmod 8 = 0
      rw [hB]; rfl
  · have h : q.off = off := h.1
    omega
  · show q.off < off + (B.length : Int)
    omega
  · show off < q.off + (q.pay.length : Int)
    omega
  · show B.length ≤ 700
    omega
  · show 0 ≤ off
    omega
end Go.Proofs.Ytjmmmmdpkfpojaa

set_option maxRecDepth 20000
namespace Go.Proofs.Ytjmmmmdpkfpojaa
open Go Go.IW
section
attribute [local go_sem] List.getElem?_cons_zero List.getElem?_cons_succ Option.bind_some List.map_cons List.map_nil Nat.zero_add if_true List.getD_cons_zero List.getD_cons_succ List.contains_cons List.contains_nil Bool.or_true Bool.true_or Bool.or_false Bool.false_or Bool.not_true Bool.not_false true_and and_true rowA_whole mid_get rowO_rows cellO_rows upd_ne Nat.add_assoc Nat.add_zero List.all_cons List.all_nil one_bool one_int one_str one_ptr one_nilptr one_slice one_eslice one_nilslice one_func one_iface one_niliface Bool.and_true Bool.and_self List.length_cons List.length_nil Nat.one_ne_zero Nat.succ_ne_zero if_false List.set_cons_zero List.set_cons_succ lay_nil lay_1 lay_w Option.map_some cells_one rowA_some List.drop_succ_cons List.drop_zero List.take_succ_cons List.take_zero

set_option maxHeartbeats 4000000 in
theorem lawOverlap : LawTrue Try.prog 6 [(.slice (.int .u8), false)] := by
  rintro h ivs ha ⟨iv, r, rfl, hf, rfl⟩
  obtain ⟨dS, aS, okS', wS⟩ := fits_vw (.slice 5 (.int .u8)) hf
  obtain ⟨bs, rfl, s1⟩ := bytes_any aS wS
  refine icalls (.of ok6) (Nat.le_of_ble_eq_true rfl) ?_
  unfold c6
  have v1 := s1.one
  have hlen := s1.lenF
  rw [strRows_len] at hlen
  by_cases hbig : (1048576 : Int) < bs.length
  · have hn : decide ((1048576 : Int) < bs.length) = true := decide_eq_true hbig
    simp (disch := (first | omega | assumption | (simp only [push_n, set_n, put_n, lc0, ln0, la0, Nat.reduceAdd]; done) | (simp only [push_n, set_n, put_n, lc0, ln0, la0]; omega) | (simp only [List.all_cons, List.all_nil, one_bool, one_int, one_str, one_ptr, one_nilptr, one_slice, one_eslice, one_nilslice, one_func, one_iface, one_niliface, Bool.and_true, Bool.true_and, List.getD_cons_zero, List.getD_cons_succ, List.contains_cons, List.contains_nil, Bool.or_true, Bool.true_or, Bool.or_false, Bool.false_or, Nat.reduceBEq, *]; done) | fail)) only [hlen, hn, go_sem, ↓act_zero, boxA_1, boxA_2, boxA_3, bslA_1, Hold.p, HoldK.k, HoldL.K, HoldL.body, Nat.reduceBEq, Nat.reduceAdd, stO_mid, push_n, set_n, push_at, push_old, set_here, set_there, set_pushT, set_pushN, set_set, stO_1s, stO_ws, boxA_s, reduceIte]
  have hn : decide ((1048576 : Int) < bs.length) = false := decide_eq_false hbig
  have hl : bs.length ≤ 1048576 := by omega
  have S := Sp.start h
  refine vc_split 12 (fun e g => ∃ (p3 p4 p7 lo R i : Nat) (P q : Pk) (fs ps : List Pk) (rs rsP : List (List IV)) (wo wp vq vb : IV), Six P R fs ps rs rsP i q wo wp ∧ e 3 = .ptr p3 0 0 ∧ e 4 = .ptr p4 0 0 ∧ e 5 = .slice lo 0 rsP.length ∧ e 7 = .ptr p7 0 0 ∧ wo.one = true ∧ vq.one = true ∧ vb.one = true ∧
    SrcAt g p3 iv bs.length (old h :: [box p7 (pkObj { q with mf := false, pay := q.pay.take (q.pay.length - 1) } wo vb), byt vb (q.pay.take (q.pay.length - 1)), box lo (.rows rsP 44 11 false), all2 pkR rs fs, box p4 (pkObj P .nilslice vq), byt vq P.pay])) ?_ ?_
  · simp only [CC.split]
    try simp (disch := (first | omega | assumption | (simp only [lc0, ln0, la0]; first | done | omega) | (simp (disch := assumption) only [go_sem, one_as, Nat.reduceBEq]; done) | fail)) only [hlen, hn, go_sem, Hold.p, HoldK.k, HoldL.K, HoldL.body, Nat.reduceBEq, Nat.reduceAdd, reduceIte]
    refine callA_of (lwBegin_c S iv bs s1 hl 9) ?_
    clear S
    rintro r1 g1 ⟨st1, rfl, hst, S⟩
    try simp (disch := (first | omega | assumption | (simp only [lc0, ln0, la0]; first | done | omega) | (simp (disch := assumption) only [go_sem, one_as, Nat.reduceBEq]; done) | fail)) only [go_sem, Hold.p, HoldK.k, HoldL.K, HoldL.body, Nat.reduceBEq, Nat.reduceAdd, reduceIte]
    refine Sp.zero S fun p3 g2 S E_g2 l_g2 => ?_
    have q0 := (S.bx 0 rfl).eq
    try simp (disch := (first | omega | assumption | (simp only [lc0, ln0, la0]; first | done | omega) | (simp (disch := assumption) only [go_sem, one_as, Nat.reduceBEq]; done) | fail)) only [q0, go_sem, Hold.p, HoldK.k, HoldL.K, HoldL.body, Nat.reduceBEq, Nat.reduceAdd, reduceIte]
    refine stw_of rfl rfl (by first | rfl | simp (disch := assumption) only [go_sem, cells_one, one_as]) fun g3 hg => ?_
    have l_g3 := n_set hg
    have S := S.set0 hg
    clear hg
    have W : SrcAt g3 p3 iv bs.length (old h :: []) := ⟨0, st1, by omega, by omega, hst, S⟩
    clear S
    try simp (disch := (first | omega | assumption | (simp only [lc0, ln0, la0]; first | done | omega) | (simp (disch := assumption) only [go_sem, one_as, Nat.reduceBEq]; done) | fail)) only [go_sem, Hold.p, HoldK.k, HoldL.K, HoldL.body, Nat.reduceBEq, Nat.reduceAdd, reduceIte]
    refine callA_of (lwWhole_c W s1 hl 5) ?_
    clear W
    rintro r4 g4 ⟨p, vo, vp, rfl, y1, y2, hP, W⟩
    obtain ⟨pos, st, w1, w2, w3, S⟩ := W
    unfold pkRow
    try simp (disch := (first | omega | assumption | (simp only [lc0, ln0, la0]; first | done | omega) | (simp (disch := assumption) only [go_sem, one_as, Nat.reduceBEq]; done) | fail)) only [y1, y2, go_sem, Hold.p, HoldK.k, HoldL.K, HoldL.body, Nat.reduceBEq, Nat.reduceAdd, reduceIte]
    refine Sp.zero S fun p4 g5 S E_g5 l_g5 => ?_
    have q0 := (S.bx 0 rfl).eq
    try simp (disch := (first | omega | assumption | (simp only [lc0, ln0, la0]; first | done | omega) | (simp (disch := assumption) only [go_sem, one_as, Nat.reduceBEq]; done) | fail)) only [q0, y1, y2, go_sem, Hold.p, HoldK.k, HoldL.K, HoldL.body, Nat.reduceBEq, Nat.reduceAdd, reduceIte]
    refine stw_of rfl rfl (by first | rfl | simp (disch := assumption) only [go_sem, cells_one, one_as]) fun g6 hg => ?_
    have l_g6 := n_set hg
    have S := S.set0 hg
    clear hg
    have q0 := (S.bx 0 rfl).eq
    try simp (disch := (first | omega | assumption | (simp only [lc0, ln0, la0]; first | done | omega) | (simp (disch := assumption) only [go_sem, one_as, Nat.reduceBEq]; done) | fail)) only [q0, go_sem, Hold.p, HoldK.k, HoldL.K, HoldL.body, Nat.reduceBEq, Nat.reduceAdd, reduceIte]
    refine st1_of (Nat.le_of_ble_eq_true rfl) (by first | rfl | assumption) fun g7 hg => ?_
    have l_g7 := n_set hg
    have S := S.set0 hg
    clear hg
    simp only [sz0, ss0, ts0, tz0, ds0, dz0, ca0, na0, Nat.reduceAdd] at S
    have q0 := (S.bx 0 rfl).eq
    try simp (disch := (first | omega | assumption | (simp only [lc0, ln0, la0]; first | done | omega) | (simp (disch := assumption) only [go_sem, one_as, Nat.reduceBEq]; done) | fail)) only [q0, go_sem, Hold.p, HoldK.k, HoldL.K, HoldL.body, Nat.reduceBEq, Nat.reduceAdd, reduceIte]
    have W : SrcAt g7 p3 iv bs.length (old h :: [box p4 (pkObj { p with opts := [] } .nilslice vp)]) := ⟨pos, st, w1, w2, w3, by
      have S := by simpa only [mc0, mn0, List.getD_cons_zero, List.getD_cons_succ, ds0, dz0, ca0, na0] using Sp.sel S 5 [1, 2, 0] (by simp only [lc0]; omega) (by decide) (by decide)
      exact S⟩
    clear S
    refine callA_of (lwNext_c W s1 hl 999 (by omega)) ?_
    clear W
    rintro r8 g8 ⟨x8, rfl, a8, b8, W⟩
    have b8 := b8 (by omega)
    try simp (disch := (first | omega | assumption | (simp only [lc0, ln0, la0]; first | done | omega) | (simp (disch := assumption) only [go_sem, one_as, Nat.reduceBEq]; done) | fail)) only [go_sem, Hold.p, HoldK.k, HoldL.K, HoldL.body, Nat.reduceBEq, Nat.reduceAdd, reduceIte]
    refine callA_of (lwNext_c W s1 hl 300 (by omega)) ?_
    clear W
    rintro r9 g9 ⟨x9, rfl, a9, b9, W⟩
    have b9 := b9 (by omega)
    have e9 : wr .i64 (120 + x9) = 120 + x9 := wr64 _ (by omega)
    obtain ⟨pos, st, w1, w2, w3, S⟩ := W
    have q2 := (S.bx 2 rfl).eq
    try simp (disch := (first | omega | assumption | (simp only [lc0, ln0, la0]; first | done | omega) | (simp (disch := assumption) only [go_sem, one_as, Nat.reduceBEq]; done) | fail)) only [q2, e9, go_sem, Hold.p, HoldK.k, HoldL.K, HoldL.body, Nat.reduceBEq, Nat.reduceAdd, reduceIte]
    refine callA_of (lwPattern_c S x8 (120 + x9) a8 (by omega) (by omega) (by omega)) ?_
    clear S
    rintro r10 g10 ⟨pb, hpb, z10, S⟩
    have q3 := (S.bx 3 rfl).eq
    try simp (disch := (first | omega | assumption | (simp only [lc0, ln0, la0]; first | done | omega) | (simp (disch := assumption) only [go_sem, one_as, Nat.reduceBEq]; done) | fail)) only [q3, z10, go_sem, Hold.p, HoldK.k, HoldL.K, HoldL.body, Nat.reduceBEq, Nat.reduceAdd, reduceIte]
    refine st1_of (Nat.le_of_ble_eq_true rfl) (by first | rfl | assumption) fun g11 hg => ?_
    have l_g11 := n_set hg
    have S := S.set3 hg
    clear hg
    simp only [sz0, ss0, ts0, tz0, ds0, dz0, ca0, na0, Nat.reduceAdd] at S
    obtain ⟨P, hPe⟩ : ∃ P : Pk, P = { p with opts := [], pay := pb } := ⟨_, rfl⟩
    have hP2 : WholeP P 5 := by
      rw [hPe]
      exact ⟨hP.tos, hP.id, hP.df, hP.mf, hP.off, hP.ttl, hP.proto, hP.src, hP.dst, by simp, by simp, by show 1 ≤ pb.length; omega, by show pb.length ≤ 600; omega⟩
    have hPp : P.pay = pb := by rw [hPe]
    have hPo : P.opts = [] := by rw [hPe]
    have W : SrcAt g11 p3 iv bs.length (old h :: [box p4 (pkObj P .nilslice r10), byt r10 P.pay]) := ⟨pos, st, w1, w2, w3, by
      rw [hPe]
      have S := by simpa only [mc0, mn0, List.getD_cons_zero, List.getD_cons_succ, ds0, dz0, ca0, na0] using Sp.sel S 4 [1, 2, 3, 0] (by simp only [lc0]; omega) (by decide) (by decide)
      exact S⟩
    clear S
    obtain ⟨pos, st, w1, w2, w3, S⟩ := W
    have q2 := (S.bx 2 rfl).eq
    try simp (disch := (first | omega | assumption | (simp only [lc0, ln0, la0]; first | done | omega) | (simp (disch := assumption) only [go_sem, one_as, Nat.reduceBEq]; done) | fail)) only [q2, go_sem, Hold.p, HoldK.k, HoldL.K, HoldL.body, Nat.reduceBEq, Nat.reduceAdd, reduceIte]
    have W : SrcAt g11 p3 iv bs.length (old h :: [box p4 (pkObj P .nilslice r10), byt r10 P.pay]) := ⟨pos, st, w1, w2, w3, S⟩
    clear S
    refine callA_of (lwNext_c W s1 hl 30 (by omega)) ?_
    clear W
    rintro r12 g12 ⟨x12, rfl, a12, b12, W⟩
    have b12 := b12 (by omega)
    have e12 : wr .i64 (68 + x12) = 68 + x12 := wr64 _ (by omega)
    obtain ⟨R, hR⟩ : ∃ R : Nat, 48 + x12 = (R : Int) := ⟨(48 + x12).toNat, by omega⟩
    obtain ⟨pos, st, w1, w2, w3, S⟩ := W
    have hcP := hP2.code (by omega) (by omega)
    have q2 := (S.bx 2 rfl).eq
    try simp (disch := (first | omega | assumption | (simp only [lc0, ln0, la0]; first | done | omega) | (simp (disch := assumption) only [go_sem, one_as, Nat.reduceBEq]; done) | fail)) only [q2, e12, go_sem, Hold.p, HoldK.k, HoldL.K, HoldL.body, Nat.reduceBEq, Nat.reduceAdd, reduceIte]
    refine callA_of (frag_c S P .nilslice r10 (fun g S => ⟨by rw [hPo]; exact SlR.nil _ _, S.slA 3 rfl⟩) hcP hP2.df hP2.p1 R (by omega) (68 + x12) (by rw [hPo]; simp only [ln0]; omega) (by omega) (by omega)) ?_
    clear S
    rintro r13 g13 ⟨v13, rs, fs, rfl, z13, hcut, S⟩
    have hfl := a2_len S 1 rfl
    have hf2 := hcut.two (by rw [hPp]; omega)
    have d2 : decide ((rs.length : Int) < 2) = false := decide_eq_false (by omega)
    have s0 := S.slA 0 rfl
    have len_s0 := s0.lenF
    have z0 := s0.one
    try simp (disch := (first | omega | assumption | (simp only [lc0, ln0, la0]; first | done | omega) | (simp (disch := assumption) only [go_sem, one_as, Nat.reduceBEq]; done) | fail)) only [len_s0, z0, decide_true, Bool.not_true, d2, go_sem, Hold.p, HoldK.k, HoldL.K, HoldL.body, Nat.reduceBEq, Nat.reduceAdd, reduceIte]
    have A := pks_of S 0 1 rfl rfl
    have hpp := hP2.p2
    have hfc := hcut.count
    have hf10 : fs.length ≤ 600 := by
      have := Nat.mul_le_mul_left (fs.length - 1) (show 1 ≤ R / 8 * 8 by omega)
      omega
    have W : SrcAt g13 p3 iv bs.length (old h :: [sl false 44 11 v13 rs, all2 pkR rs fs, box p4 (pkObj P .nilslice r10), byt r10 P.pay]) := ⟨pos, st, w1, w2, w3, by
      have S := by simpa only [mc0, mn0, List.getD_cons_zero, List.getD_cons_succ, ds0, dz0, ca0, na0] using Sp.sel S 6 [2, 3, 0, 1, 4, 5] (by simp only [lc0]; omega) (by decide) (by decide)
      exact S⟩
    clear S
    refine callA_of (lwShuffle_c W s1 hl v13 rs A.s (by omega) A.rows) ?_
    clear W
    rintro r15 g15 ⟨rsP, z15, hperm, W⟩
    obtain ⟨pos, st, w1, w2, w3, S⟩ := W
    obtain ⟨ps, hps, hall⟩ := perm_rel hperm (inb_all (Rb := rs) (Pb := fs) hfl)
    have hpl := hps.length_eq
    have hrl := all2_len' hall
    have S := by simpa only [mc0, mn0, List.getD_cons_zero, List.getD_cons_succ, ds0, dz0, ca0, na0] using Sp.sel S 7 [2, 0, 1, 4, 5, 6] (by simp only [lc0]; omega) (by decide) (by decide)
    have S0 := S
    clear S
    obtain ⟨lo, hvl, S⟩ := S0.slBox (by rintro rfl; simp at hrl; omega)
    clear S0
    have q0 := (S.bx 0 rfl).eq
    try simp (disch := (first | omega | assumption | (simp only [lc0, ln0, la0]; first | done | omega) | (simp (disch := assumption) only [go_sem, one_as, Nat.reduceBEq]; done) | fail)) only [q0, hvl, go_sem, Hold.p, HoldK.k, HoldL.K, HoldL.body, Nat.reduceBEq, Nat.reduceAdd, reduceIte]
    have el : wr .i64 ((rsP.length : Int) - 1) = ((ps.length - 1 : Nat) : Int) := by rw [wr64 _ (by omega)]; omega
    have W : SrcAt g15 p3 iv bs.length (old h :: [box lo (.rows rsP 44 11 false), all2 pkR rs fs, box p4 (pkObj P .nilslice r10), byt r10 P.pay]) := ⟨pos, st, w1, w2, w3, by
      have S := by simpa only [mc0, mn0, List.getD_cons_zero, List.getD_cons_succ, ds0, dz0, ca0, na0] using Sp.sel S 6 [1, 2, 0, 3, 4, 5] (by simp only [lc0]; omega) (by decide) (by decide)
      exact S⟩
    clear S
    try simp (disch := (first | omega | assumption | (simp only [lc0, ln0, la0]; first | done | omega) | (simp (disch := assumption) only [go_sem, one_as, Nat.reduceBEq]; done) | fail)) only [el, hvl, go_sem, Hold.p, HoldK.k, HoldL.K, HoldL.body, Nat.reduceBEq, Nat.reduceAdd, reduceIte]
    refine callA_of (lwNext_c W s1 hl _ (by omega)) ?_
    clear W
    rintro r16 g16 ⟨x16, rfl, a16, b16, W⟩
    have b16 := b16 (by omega)
    obtain ⟨i, hi⟩ : ∃ i : Nat, x16 = (i : Int) := ⟨x16.toNat, by omega⟩
    subst hi
    obtain ⟨pos, st, w1, w2, w3, S⟩ := W
    obtain ⟨q, hq⟩ : ∃ q, ps[i]? = some q := ⟨_, List.getElem?_eq_getElem (by omega : i < ps.length)⟩
    have A3 := pks_bank S 3 rfl (SlR.whole (S.bx 2 rfl).eq rfl (S.bx 2 rfl).lt) hall
    obtain ⟨wo, wp, hrow, hqa⟩ := A3.r i q hq
    have six : Six P R fs ps rs rsP i q wo wp := ⟨hP2, hPo, by rw [hPp]; omega, by rw [hPp]; omega, hcut, by omega, by omega, hps, hrl, hall, by omega, hq, hrow⟩
    have io : iadrO (IObj.rows rsP 44 11 false) 11 lo 0 rsP.length (i : Int) = some (.ptr lo i 0) := by rw [iadrO_nat (by omega)]; simp
    have y3 := hqa.o.one
    have y4 := hqa.p.one
    have hrow0 := hrow
    unfold pkRow at hrow
    have q2 := (S.bx 2 rfl).eq
    try simp (disch := (first | omega | assumption | (simp only [lc0, ln0, la0]; first | done | omega) | (simp (disch := assumption) only [go_sem, one_as, Nat.reduceBEq]; done) | fail)) only [q2, iadrF_sl, io, hrow, hvl, go_sem, Hold.p, HoldK.k, HoldL.K, HoldL.body, Nat.reduceBEq, Nat.reduceAdd, reduceIte]
    refine Sp.zero S fun p7 g17 S E_g17 l_g17 => ?_
    have q0 := (S.bx 0 rfl).eq
    try simp (disch := (first | omega | assumption | (simp only [lc0, ln0, la0]; first | done | omega) | (simp (disch := assumption) only [go_sem, one_as, Nat.reduceBEq]; done) | fail)) only [q0, y3, y4, go_sem, Hold.p, HoldK.k, HoldL.K, HoldL.body, Nat.reduceBEq, Nat.reduceAdd, reduceIte]
    refine stw_of rfl rfl (by first | rfl | simp (disch := assumption) only [go_sem, cells_one, one_as]) fun g18 hg => ?_
    have l_g18 := n_set hg
    have S := S.set0 hg
    clear hg
    have hqa : PkAt g18 q wo wp := by
      obtain ⟨j, h1, h2⟩ : InB rs fs (pkRow q wo wp) q := all2_get hall hrow0 hq
      obtain ⟨vo', vp', e, a⟩ := pks_at S 4 rfl h2
      rw [h1] at e
      simp only [pkRow, Option.some.injEq, List.cons.injEq, and_true, true_and] at e
      rw [e.1, e.2]
      exact a
    obtain ⟨_, _, hq1, hq77, _⟩ := six.piece
    have lwp := hqa.p.lenF
    rw [strRows_len] at lwp
    have ew : wr .i64 ((q.pay.length : Int) - 1) = ((q.pay.length - 1 : Nat) : Int) := by rw [wr64 _ (by omega)]; omega
    obtain ⟨v19, hsl, a19⟩ := hqa.p.hi (b := q.pay.length - 1) (q := .i64) (by rw [strRows_len]; omega)
    rw [show (strRows q.pay).take (q.pay.length - 1) = strRows (q.pay.take (q.pay.length - 1)) by simp [strRows, List.map_take]] at a19
    have hsrc := a19.src
    have q0 := (S.bx 0 rfl).eq
    try simp (disch := (first | omega | assumption | (simp only [lc0, ln0, la0]; first | done | omega) | (simp (disch := assumption) only [go_sem, one_as, Nat.reduceBEq]; done) | fail)) only [q0, lwp, ew, hsl, hsrc, Option.map_none, Option.map_some, go_sem, Hold.p, HoldK.k, HoldL.K, HoldL.body, Nat.reduceBEq, Nat.reduceAdd, reduceIte]
    have S := S.slEmpty (x := false) (el := 5) (sz := 1)
    have hBl : (strRows (q.pay.take (q.pay.length - 1))).length ≤ 77 := by rw [strRows_len, List.length_take]; omega
    refine S.appAll (by simp only [ln0]; omega) ?_
    clear S
    intro v20 g20 S z20
    rw [na0] at S
    have q1 := (S.bx 1 rfl).eq
    try simp (disch := (first | omega | assumption | (simp only [lc0, ln0, la0]; first | done | omega) | (simp (disch := assumption) only [go_sem, one_as, Nat.reduceBEq]; done) | fail)) only [q1, z20, go_sem, Hold.p, HoldK.k, HoldL.K, HoldL.body, Nat.reduceBEq, Nat.reduceAdd, reduceIte]
    refine st1_of (Nat.le_of_ble_eq_true rfl) (by first | rfl | assumption) fun g21 hg => ?_
    have l_g21 := n_set hg
    have S := S.set1 hg
    clear hg
    simp only [sz0, ss0, ts0, tz0, ds0, dz0, ca0, na0, Nat.reduceAdd] at S
    have q1 := (S.bx 1 rfl).eq
    try simp (disch := (first | omega | assumption | (simp only [lc0, ln0, la0]; first | done | omega) | (simp (disch := assumption) only [go_sem, one_as, Nat.reduceBEq]; done) | fail)) only [q1, z20, go_sem, Hold.p, HoldK.k, HoldL.K, HoldL.body, Nat.reduceBEq, Nat.reduceAdd, reduceIte]
    refine st1_of (Nat.le_of_ble_eq_true rfl) (by first | rfl | assumption) fun g22 hg => ?_
    have l_g22 := n_set hg
    have S := S.set1 hg
    clear hg
    simp only [sz0, ss0, ts0, tz0, ds0, dz0, ca0, na0, Nat.reduceAdd] at S
    have q1 := (S.bx 1 rfl).eq
    try simp (disch := (first | omega | assumption | (simp only [lc0, ln0, la0]; first | done | omega) | (simp (disch := assumption) only [go_sem, one_as, Nat.reduceBEq]; done) | fail)) only [q1, z20, go_sem, Hold.p, HoldK.k, HoldL.K, HoldL.body, Nat.reduceBEq, Nat.reduceAdd, reduceIte]
    refine ⟨p3, p4, p7, lo, R, i, P, q, fs, ps, rs, rsP, wo, wp, r10, v20, six, rfl, rfl, rfl, rfl, y3, z10, z20, pos, st, w1, w2, w3, ?_⟩
    have S := by simpa only [mc0, mn0, List.getD_cons_zero, List.getD_cons_succ, ds0, dz0, ca0, na0] using Sp.sel S 4 [2, 3, 1, 0] (by simp only [lc0]; omega) (by decide) (by decide)
    exact S
  · clear S
    rintro e g ⟨p3, p4, p7, lo, R, i, P, q, fs, ps, rs, rsP, wo, wp, vq, vb, six, i3, i4, i5, i7, y3, zq, zb, W⟩
    simp only [CC.split]
    refine vc_split 1 (fun e g => ∃ (bad : Pk) (vb : IV), Over P q bad ∧ e 3 = .ptr p3 0 0 ∧ e 4 = .ptr p4 0 0 ∧ e 5 = .slice lo 0 rsP.length ∧ e 7 = .ptr p7 0 0 ∧ vb.one = true ∧
      SrcAt g p3 iv bs.length (old h :: [box p7 (pkObj bad wo vb), byt vb bad.pay, box lo (.rows rsP 44 11 false), all2 pkR rs fs, box p4 (pkObj P .nilslice vq), byt vq P.pay])) ?_ ?_
    · simp only [CC.split]
      try simp (disch := (first | omega | assumption | (simp only [lc0, ln0, la0]; first | done | omega) | (simp (disch := assumption) only [go_sem, one_as, Nat.reduceBEq]; done) | fail)) only [i3, i4, i5, i7, go_sem, Hold.p, HoldK.k, HoldL.K, HoldL.body, Nat.reduceBEq, Nat.reduceAdd, reduceIte]
      refine callA_of (lwNext_c W s1 hl 2 (by omega)) ?_
      clear W
      rintro r23 g23 ⟨x23, rfl, a23, b23, W⟩
      obtain ⟨pos, st, w1, w2, w3, S⟩ := W
      have hz := S.slA 3 rfl
      have hbl := hz.lenF
      rw [strRows_len] at hbl
      have q0 := (S.bx 0 rfl).eq
      have q2 := (S.bx 2 rfl).eq
      try simp (disch := (first | omega | assumption | (simp only [lc0, ln0, la0]; first | done | omega) | (simp (disch := assumption) only [go_sem, one_as, Nat.reduceBEq]; done) | fail)) only [q0, q2, i3, i4, i5, i7, hbl, go_sem, Hold.p, HoldK.k, HoldL.K, HoldL.body, Nat.reduceBEq, Nat.reduceAdd, reduceIte]
      obtain ⟨hq, hqo, hq1, hq77, ⟨c, hc1, hc2, hc3⟩, hq0, _⟩ := six.piece
      have hBl : (q.pay.take (q.pay.length - 1)).length = q.pay.length - 1 := by rw [List.length_take]; omega
      refine test_of (fun hc => ?_) (fun hc => ?_)
      · obtain ⟨k, hk⟩ : ∃ k : Nat, k = (q.pay.length - 1) / 8 := ⟨_, rfl⟩
        have r8 := ib_quo .i64 ((q.pay.take (q.pay.length - 1)).length : Int) 8 (by decide)
        have t8 : (((q.pay.take (q.pay.length - 1)).length : Int)).tdiv 8 = (k : Int) := by rw [Int.tdiv_eq_ediv_of_nonneg (by omega)]; omega
        rw [t8, wr64 _ (by omega)] at r8
        have m8 : wr .i64 (8 * (k : Int)) = 8 * (k : Int) := wr64 _ (by omega)
        have p8 : wr .i64 (8 * (k : Int) + 8) = 8 * (k : Int) + 8 := wr64 _ (by omega)
        have q2 := (S.bx 2 rfl).eq
        try simp (disch := (first | omega | assumption | (simp only [lc0, ln0, la0]; first | done | omega) | (simp (disch := assumption) only [go_sem, one_as, Nat.reduceBEq]; done) | fail)) only [q2, i3, i4, i5, i7, hbl, r8, m8, p8, go_sem, Hold.p, HoldK.k, HoldL.K, HoldL.body, Nat.reduceBEq, Nat.reduceAdd, reduceIte]
        refine callA_of (lwPattern_c S 0 (8 * (k : Int) + 8) (by omega) (by omega) (by omega) (by omega)) ?_
        clear S
        rintro r24 g24 ⟨B2, hB2, z24, S⟩
        have o8 : wr .i64 (q.off + 8) = q.off + 8 := wr64 _ (by omega)
        have hl2 := (S.slA 0 rfl).lenF
        rw [strRows_len, hB2] at hl2
        have q3 := (S.bx 3 rfl).eq
        try simp (disch := (first | omega | assumption | (simp only [lc0, ln0, la0]; first | done | omega) | (simp (disch := assumption) only [go_sem, one_as, Nat.reduceBEq]; done) | fail)) only [q3, i3, i4, i5, i7, z24, go_sem, Hold.p, HoldK.k, HoldL.K, HoldL.body, Nat.reduceBEq, Nat.reduceAdd, reduceIte]
        refine st1_of (Nat.le_of_ble_eq_true rfl) (by first | rfl | assumption) fun g25 hg => ?_
        have l_g25 := n_set hg
        have S := S.set3 hg
        clear hg
        simp only [sz0, ss0, ts0, tz0, ds0, dz0, ca0, na0, Nat.reduceAdd] at S
        have q3 := (S.bx 3 rfl).eq
        try simp (disch := (first | omega | assumption | (simp only [lc0, ln0, la0]; first | done | omega) | (simp (disch := assumption) only [go_sem, one_as, Nat.reduceBEq]; done) | fail)) only [q3, i3, i4, i5, i7, z24, go_sem, Hold.p, HoldK.k, HoldL.K, HoldL.body, Nat.reduceBEq, Nat.reduceAdd, reduceIte]
        refine st1_of (Nat.le_of_ble_eq_true rfl) (by first | rfl | assumption) fun g26 hg => ?_
        have l_g26 := n_set hg
        have S := S.set3 hg
        clear hg
        simp only [sz0, ss0, ts0, tz0, ds0, dz0, ca0, na0, Nat.reduceAdd] at S
        have q3 := (S.bx 3 rfl).eq
        try simp (disch := (first | omega | assumption | (simp only [lc0, ln0, la0]; first | done | omega) | (simp (disch := assumption) only [go_sem, one_as, Nat.reduceBEq]; done) | fail)) only [q3, i3, i4, i5, i7, z24, o8, go_sem, Hold.p, HoldK.k, HoldL.K, HoldL.body, Nat.reduceBEq, Nat.reduceAdd, reduceIte]
        refine st1_of (Nat.le_of_ble_eq_true rfl) (by first | rfl | assumption) fun g27 hg => ?_
        have l_g27 := n_set hg
        have S := S.set3 hg
        clear hg
        simp only [sz0, ss0, ts0, tz0, ds0, dz0, ca0, na0, Nat.reduceAdd] at S
        have q3 := (S.bx 3 rfl).eq
        try simp (disch := (first | omega | assumption | (simp only [lc0, ln0, la0]; first | done | omega) | (simp (disch := assumption) only [go_sem, one_as, Nat.reduceBEq]; done) | fail)) only [q3, i3, i4, i5, i7, z24, hl2, go_sem, Hold.p, HoldK.k, HoldL.K, HoldL.body, Nat.reduceBEq, Nat.reduceAdd, reduceIte]
        refine test_dec (fun hd => ?_) (fun hd => ?_)
        · skip
          have q3 := (S.bx 3 rfl).eq
          try simp (disch := (first | omega | assumption | (simp only [lc0, ln0, la0]; first | done | omega) | (simp (disch := assumption) only [go_sem, one_as, Nat.reduceBEq]; done) | fail)) only [q3, i3, i4, i5, i7, z24, go_sem, Hold.p, HoldK.k, HoldL.K, HoldL.body, Nat.reduceBEq, Nat.reduceAdd, reduceIte]
          refine callA_of (lwPattern_c S 0 16 (by omega) (by omega) (by omega) (by omega)) ?_
          clear S
          rintro r28 g28 ⟨B3, hB3, z28, S⟩
          have o16 : wr .i64 (q.off + 8 - 16) = q.off + 8 - 16 := wr64 _ (by omega)
          have q4 := (S.bx 4 rfl).eq
          try simp (disch := (first | omega | assumption | (simp only [lc0, ln0, la0]; first | done | omega) | (simp (disch := assumption) only [go_sem, one_as, Nat.reduceBEq]; done) | fail)) only [q4, i3, i4, i5, i7, z24, z28, go_sem, Hold.p, HoldK.k, HoldL.K, HoldL.body, Nat.reduceBEq, Nat.reduceAdd, reduceIte]
          refine st1_of (Nat.le_of_ble_eq_true rfl) (by first | rfl | assumption) fun g29 hg => ?_
          have l_g29 := n_set hg
          have S := S.set4 hg
          clear hg
          simp only [sz0, ss0, ts0, tz0, ds0, dz0, ca0, na0, Nat.reduceAdd] at S
          have q4 := (S.bx 4 rfl).eq
          try simp (disch := (first | omega | assumption | (simp only [lc0, ln0, la0]; first | done | omega) | (simp (disch := assumption) only [go_sem, one_as, Nat.reduceBEq]; done) | fail)) only [q4, i3, i4, i5, i7, z24, z28, o16, go_sem, Hold.p, HoldK.k, HoldL.K, HoldL.body, Nat.reduceBEq, Nat.reduceAdd, reduceIte]
          refine st1_of (Nat.le_of_ble_eq_true rfl) (by first | rfl | assumption) fun g30 hg => ?_
          have l_g30 := n_set hg
          have S := S.set4 hg
          clear hg
          simp only [sz0, ss0, ts0, tz0, ds0, dz0, ca0, na0, Nat.reduceAdd] at S
          have q4 := (S.bx 4 rfl).eq
          try simp (disch := (first | omega | assumption | (simp only [lc0, ln0, la0]; first | done | omega) | (simp (disch := assumption) only [go_sem, one_as, Nat.reduceBEq]; done) | fail)) only [q4, i3, i4, i5, i7, z24, z28, go_sem, Hold.p, HoldK.k, HoldL.K, HoldL.body, Nat.reduceBEq, Nat.reduceAdd, reduceIte]
          refine ⟨{ q with mf := true, off := q.off + 8 - 16, pay := B3 }, r28, six.overC (by omega) (by omega) (by omega), z28, pos, st, w1, w2, w3, ?_⟩
          have S := by simpa only [mc0, mn0, List.getD_cons_zero, List.getD_cons_succ, ds0, dz0, ca0, na0] using Sp.sel S 10 [2, 3, 4, 0, 6, 7, 8, 9] (by simp only [lc0]; omega) (by decide) (by decide)
          exact S
        · skip
          have q3 := (S.bx 3 rfl).eq
          try simp (disch := (first | omega | assumption | (simp only [lc0, ln0, la0]; first | done | omega) | (simp (disch := assumption) only [go_sem, one_as, Nat.reduceBEq]; done) | fail)) only [q3, i3, i4, i5, i7, z24, go_sem, Hold.p, HoldK.k, HoldL.K, HoldL.body, Nat.reduceBEq, Nat.reduceAdd, reduceIte]
          refine ⟨{ q with mf := true, off := q.off + 8, pay := B2 }, r24, six.overB (k := k + 1) (by omega) (by omega) (by omega), z24, pos, st, w1, w2, w3, ?_⟩
          have S := by simpa only [mc0, mn0, List.getD_cons_zero, List.getD_cons_succ, ds0, dz0, ca0, na0] using Sp.sel S 9 [1, 2, 3, 0, 5, 6, 7, 8] (by simp only [lc0]; omega) (by decide) (by decide)
          exact S
      · skip
        have q2 := (S.bx 2 rfl).eq
        try simp (disch := (first | omega | assumption | (simp only [lc0, ln0, la0]; first | done | omega) | (simp (disch := assumption) only [go_sem, one_as, Nat.reduceBEq]; done) | fail)) only [q2, i3, i4, i5, i7, go_sem, Hold.p, HoldK.k, HoldL.K, HoldL.body, Nat.reduceBEq, Nat.reduceAdd, reduceIte]
        simp only [Bool.or_eq_false_iff, decide_eq_false_iff_not] at hc
        refine ⟨{ q with mf := false, pay := q.pay.take (q.pay.length - 1) }, vb, six.overA rfl (by rintro h0; rw [h0] at hc; simp at hc) hc.2, zb, pos, st, w1, w2, w3, ?_⟩
        exact S
    · clear W
      rintro e g ⟨bad, vc, hov, i3, i4, i5, i7, zc, W⟩
      simp only [CC.split]
      obtain ⟨pos, st, w1, w2, w3, S⟩ := W
      have b4 := S.bx 6 rfl
      have b7 := S.bx 2 rfl
      have A : PksAt g (.slice lo 0 rsP.length) rsP ps := pks_bank S 5 rfl (SlR.whole (S.bx 4 rfl).eq rfl (S.bx 4 rfl).lt) six.rows
      have ap : PkAt g P .nilslice vq := ⟨by rw [six.o]; exact SlR.nil _ _, S.slA 7 rfl⟩
      have ab : PkAt g bad wo vc := by
        obtain ⟨wo', wp', e, a⟩ := A.r i q six.hq
        rw [six.row] at e
        simp only [pkRow, Option.some.injEq, List.cons.injEq, and_true, true_and] at e
        have a1 := a.o
        rw [six.piece.2.1, ← e.1] at a1
        exact ⟨by rw [hov.opts]; exact a1, S.slA 3 rfl⟩
      clear S
      have S := Sp.start g
      have q4 := b4.eq
      have q7 := b7.eq
      have d0 : decide (bad.off < 0) = false := decide_eq_false (by have := hov.nn; omega)
      have hn := six.n
      have hii := six.hi
      have hfl := six.pm.length_eq
      have hf9 : fs.length ≤ 9 := by
        have h1 := six.cut.count
        have h2 := six.l2
        have := Nat.mul_le_mul_left (fs.length - 1) (show 48 ≤ R / 8 * 8 by have := six.r1; omega)
        omega
      have el : wr .i64 ((rsP.length : Int) - 1) = ((rsP.length - 1 : Nat) : Int) := by rw [wr64 _ (by omega)]; omega
      obtain ⟨init, last, hpse⟩ : ∃ init last, ps = init ++ [last] := by
        rcases List.eq_nil_or_concat ps with e | ⟨x, y, e⟩
        · rw [e] at hii; simp at hii
        · exact ⟨x, y, by rw [e]; simp⟩
      have hinl : init.length + 1 = ps.length := by rw [hpse]; simp
      obtain ⟨va1, hs1, as1⟩ := A.s.hi (b := rsP.length - 1) (q := .i64) (by omega)
      have A1 : PksAt g va1 (rsP.take (rsP.length - 1)) init := by
        refine ⟨as1, by rw [List.length_take]; omega, fun j p hp => ?_⟩
        have hj := (List.getElem?_eq_some_iff.1 hp).1
        obtain ⟨a1, a2, a3, a4⟩ := A.r j p (by rw [hpse, List.getElem?_append_left hj]; exact hp)
        exact ⟨a1, a2, by rw [List.getElem?_take, if_pos (by omega)]; exact a3, a4⟩
      have mkA2 : ∀ g', Ext g g' → ∃ va2, slcF g' 11 (.slice lo 0 rsP.length) (some (.int .i64 ((rsP.length - 1 : Nat) : Int))) none = some va2 ∧ PksAt g' va2 (rsP.drop (rsP.length - 1)) [last] := by
        intro g' E
        have A' := A.ext E
        obtain ⟨va2, hs2, as2⟩ := A'.s.lo (a := rsP.length - 1) (q := .i64) (by omega)
        refine ⟨va2, hs2, as2, by rw [List.length_drop]; simp only [List.length_singleton]; omega, fun j p hp => ?_⟩
        have hj := (List.getElem?_eq_some_iff.1 hp).1
        have hj0 : j = 0 := by simpa using hj
        subst hj0
        obtain ⟨a1, a2, a3, a4⟩ := A'.r init.length p (by rw [hpse, List.getElem?_append_right (Nat.le_refl _), Nat.sub_self]; exact hp)
        exact ⟨a1, a2, by rw [List.getElem?_drop, show rsP.length - 1 + 0 = init.length by omega]; exact a3, a4⟩
      obtain ⟨va2, hs2, A2⟩ := mkA2 g (Ext.refl _)
      have hsz : ∀ p ∈ ps, p.opts.length + p.pay.length ≤ 700 := by
        intro p hp
        have hpF := six.pm.mem_iff.1 hp
        obtain ⟨h1, h2⟩ := six.cut.len p hpF
        rw [h2, six.o]
        have := six.r2
        simp only [ln0]
        omega
      have yo := ab.o.one
      simp (disch := (first | omega | assumption | (simp only [push_n, set_n, put_n, lc0, ln0, la0, Nat.reduceAdd]; done) | (simp only [push_n, set_n, put_n, lc0, ln0, la0]; omega) | (simp only [List.all_cons, List.all_nil, one_bool, one_int, one_str, one_ptr, one_nilptr, one_slice, one_eslice, one_nilslice, one_func, one_iface, one_niliface, Bool.and_true, Bool.true_and, List.getD_cons_zero, List.getD_cons_succ, List.contains_cons, List.contains_nil, Bool.or_true, Bool.true_or, Bool.or_false, Bool.false_or, Nat.reduceBEq, *]; done) | fail)) only [i3, i4, i5, i7, q7, d0, el, hs1, Option.map_none, Option.map_some, go_sem, ↓act_zero, boxA_1, boxA_2, boxA_3, bslA_1, Hold.p, HoldK.k, HoldL.K, HoldL.body, Nat.reduceBEq, Nat.reduceAdd, stO_mid, push_n, set_n, push_at, push_old, set_here, set_there, set_pushT, set_pushN, set_set, stO_1s, stO_ws, boxA_s, reduceIte]
      refine callA_of (lwTakes_c S va1 (rsP.take (rsP.length - 1)) init (by omega) (fun p hp => by have := hsz p (by rw [hpse]; exact List.mem_append_left _ hp); omega) (fun g S => A1.ext (S.ol 0 rfl))) ?_
      clear S
      rintro r31 g31 ⟨ors1, z31, S⟩
      have E31 := S.ol 2 rfl
      have q7 := (b7.ext E31).eq
      have o1 := a2_len S 1 rfl
      rw [List.length_map] at o1
      try simp (disch := (first | omega | assumption | (simp only [lc0, ln0, la0]; first | done | omega) | (simp (disch := assumption) only [go_sem, one_as, Nat.reduceBEq]; done) | fail)) only [i3, i4, i5, i7, q7, yo, zc, go_sem, Hold.p, HoldK.k, HoldL.K, HoldL.body, Nat.reduceBEq, Nat.reduceAdd, reduceIte]
      refine Sp.bsl1 S (by first | rfl | (rw [cells_one (by assumption)]; rfl)) (by first | rfl | simp (disch := assumption) only [go_sem, cells_one, one_as]) fun p32 g32 S E_g32 l_g32 => ?_
      try simp only [cells_agg, cells_int, cells_bool, cells_ptr, cells_str] at S
      have ab32 := (ab.ext E31).ext E_g32
      try simp (disch := (first | omega | assumption | (simp only [lc0, ln0, la0]; first | done | omega) | (simp (disch := assumption) only [go_sem, one_as, Nat.reduceBEq]; done) | fail)) only [i3, i4, i5, i7, go_sem, Hold.p, HoldK.k, HoldL.K, HoldL.body, Nat.reduceBEq, Nat.reduceAdd, reduceIte]
      have hl1 : init.length ≤ 9 := by omega
      refine callA_of (lwTakes_c S (.slice p32 0 1) [pkRow bad wo vc] [bad] (by simp) (fun p hp => by rw [List.mem_singleton.1 hp, hov.opts]; have := hov.len; simp only [ln0]; omega) (fun g' S => ?_)) ?_
      · have E' := S.ol 3 rfl
        refine ⟨SlR.whole (S.bx 0 rfl).eq rfl (S.bx 0 rfl).lt, rfl, fun j p hp => ?_⟩
        have hj := (List.getElem?_eq_some_iff.1 hp).1
        have hj0 : j = 0 := by simpa using hj
        subst hj0
        obtain rfl : bad = p := by simpa using hp
        exact ⟨wo, vc, rfl, ab.ext E'⟩
      clear S
      rintro r33 g33 ⟨ors2, z33, S⟩
      have o2 := a2_len S 1 rfl
      have hsrc := (S.slA 0 rfl).src
      try simp (disch := (first | omega | assumption | (simp only [lc0, ln0, la0]; first | done | omega) | (simp (disch := assumption) only [go_sem, one_as, Nat.reduceBEq]; done) | fail)) only [i3, i4, i5, i7, hsrc, go_sem, Hold.p, HoldK.k, HoldL.K, HoldL.body, Nat.reduceBEq, Nat.reduceAdd, reduceIte]
      have S := by simpa only [mc0, mn0, List.getD_cons_zero, List.getD_cons_succ, ds0, dz0, ca0, na0] using Sp.sel S 6 [3, 4, 1, 5] (by simp only [lc0]; omega) (by decide) (by decide)
      have o1' : ors1.length = init.length := o1
      simp only [mc0, mn0, lc0, ln0] at o2
      refine S.appAll (by omega) ?_
      clear S
      intro v34 g34 S z34
      have S := by simpa only [mc0, mn0, List.getD_cons_zero, List.getD_cons_succ, ds0, dz0, ca0, na0] using Sp.sel S 3 [1, 2, 0] (by simp only [lc0]; omega) (by decide) (by decide)
      have S := S.a2join
      have hl34 : (ors1 ++ ors2).length = init.length + 1 := by rw [la0]; omega
      have hl35 := a2_len S 0 rfl
      generalize ors1 ++ ors2 = ors at S hl34
      have hs34 := (slcF_ext A.s (S.ol 2 rfl) (some (.int .i64 ((rsP.length - 1 : Nat) : Int))) none).trans hs2
      have s1 := S.slA 1 rfl
      have len_s1 := s1.lenF
      have z1 := s1.one
      try simp (disch := (first | omega | assumption | (simp only [lc0, ln0, la0]; first | done | omega) | (simp (disch := assumption) only [go_sem, one_as, Nat.reduceBEq]; done) | fail)) only [len_s1, z1, i3, i4, i5, i7, el, hs34, Option.map_none, Option.map_some, go_sem, Hold.p, HoldK.k, HoldL.K, HoldL.body, Nat.reduceBEq, Nat.reduceAdd, reduceIte]
      refine callA_of (lwTakes_c S va2 (rsP.drop (rsP.length - 1)) [last] (by simp) (fun p hp => by have := hsz p (by rw [hpse, List.mem_singleton.1 hp]; simp); omega) (fun g S => A2.ext (S.ol 2 rfl))) ?_
      clear S
      rintro r36 g36 ⟨ors3, z36, S⟩
      have o3 := a2_len S 1 rfl
      have hsrc := (S.slA 0 rfl).src
      try simp (disch := (first | omega | assumption | (simp only [lc0, ln0, la0]; first | done | omega) | (simp (disch := assumption) only [go_sem, one_as, Nat.reduceBEq]; done) | fail)) only [i3, i4, i5, i7, hsrc, go_sem, Hold.p, HoldK.k, HoldL.K, HoldL.body, Nat.reduceBEq, Nat.reduceAdd, reduceIte]
      have S := by simpa only [mc0, mn0, List.getD_cons_zero, List.getD_cons_succ, ds0, dz0, ca0, na0] using Sp.sel S 5 [3, 2, 1, 4] (by simp only [lc0]; omega) (by decide) (by decide)
      simp only [mc0, mn0, lc0, ln0] at o3
      refine S.appAll (by omega) ?_
      clear S
      intro v37 g37 S z37
      have S := by simpa only [mc0, mn0, List.getD_cons_zero, List.getD_cons_succ, ds0, dz0, ca0, na0] using Sp.sel S 3 [1, 2, 0] (by simp only [lc0]; omega) (by decide) (by decide)
      have S := S.a2join
      have hl37 : (ors ++ ors3).length = init.length + 2 := by rw [la0]; omega
      generalize ors ++ ors3 = orsB at S hl37
      have s1 := S.slA 1 rfl
      have len_s1 := s1.lenF
      have z1 := s1.one
      try simp (disch := (first | omega | assumption | (simp only [lc0, ln0, la0]; first | done | omega) | (simp (disch := assumption) only [go_sem, one_as, Nat.reduceBEq]; done) | fail)) only [len_s1, z1, i3, i4, i5, i7, lay_p, ca0, na0, go_sem, Hold.p, HoldK.k, HoldL.K, HoldL.body, Nat.reduceBEq, Nat.reduceAdd, reduceIte]
      refine Sp.bsl1 S (by first | rfl | (rw [cells_one (by assumption)]; rfl)) (by first | rfl | simp (disch := assumption) only [go_sem, cells_one, one_as]) fun p38 g38 S E_g38 l_g38 => ?_
      try simp only [cells_agg, cells_int, cells_bool, cells_ptr, cells_str] at S
      have q0 := (S.bx 0 rfl).eq
      have s2 := S.slA 2 rfl
      have len_s2 := s2.lenF
      have z2 := s2.one
      try simp (disch := (first | omega | assumption | (simp only [lc0, ln0, la0]; first | done | omega) | (simp (disch := assumption) only [go_sem, one_as, Nat.reduceBEq]; done) | fail)) only [q0, len_s2, z2, go_sem, Hold.p, HoldK.k, HoldL.K, HoldL.body, Nat.reduceBEq, Nat.reduceAdd, reduceIte]
      have S := by simpa only [mc0, mn0, List.getD_cons_zero, List.getD_cons_succ, ds0, dz0, ca0, na0] using Sp.sel S 4 [0, 2, 1, 3] (by simp only [lc0]; omega) (by decide) (by decide)
      refine S.app1 (y := false) (b := 128) (by omega) ?_
      clear S
      intro v39 g39 S z39
      have S := (S.slNil (x := false) (el := 5) (sz := 1)).slNil (x := false) (el := 5) (sz := 1)
      have S := (op_un (o := passOp) S rfl rfl).a2one
      have S := by simpa only [mc0, mn0, List.getD_cons_zero, List.getD_cons_succ, ds0, dz0, ca0, na0] using Sp.sel S 4 [2, 0, 1, 3] (by simp only [lc0]; omega) (by decide) (by decide)
      have S := S.a2join
      have hl39 : (orsB ++ [opRow passOp .nilslice .nilslice]).length = init.length + 3 := by rw [la0, List.length_singleton]; omega
      have er : opRow passOp .nilslice .nilslice = [.int .i64 2, .int .i64 30000, .int .i64 0, .int .i64 0, .bool false, .bool false, .int .i64 0, .int .i64 0, .int .i64 0, .int .i64 0, .int .i64 0, .nilslice, .nilslice] := rfl
      rw [← er] at S
      generalize orsB ++ [opRow passOp .nilslice .nilslice] = orsC at S hl39
      have s1 := S.slA 1 rfl
      have len_s1 := s1.lenF
      have z1 := s1.one
      try simp (disch := (first | omega | assumption | (simp only [lc0, ln0, la0]; first | done | omega) | (simp (disch := assumption) only [go_sem, one_as, Nat.reduceBEq]; done) | fail)) only [len_s1, z1, i3, i4, i5, i7, go_sem, Hold.p, HoldK.k, HoldL.K, HoldL.body, Nat.reduceBEq, Nat.reduceAdd, reduceIte]
      refine callA_of (lwTakes_c S (.slice lo 0 rsP.length) rsP ps (by omega) (fun p hp => by have := hsz p hp; omega) (fun g S => A.ext (S.ol 2 rfl))) ?_
      clear S
      rintro r41 g41 ⟨ors5, z41, S⟩
      have o5 := a2_len S 1 rfl
      rw [List.length_map] at o5
      have hsrc := (S.slA 0 rfl).src
      try simp (disch := (first | omega | assumption | (simp only [lc0, ln0, la0]; first | done | omega) | (simp (disch := assumption) only [go_sem, one_as, Nat.reduceBEq]; done) | fail)) only [i3, i4, i5, i7, hsrc, go_sem, Hold.p, HoldK.k, HoldL.K, HoldL.body, Nat.reduceBEq, Nat.reduceAdd, reduceIte]
      have S := by simpa only [mc0, mn0, List.getD_cons_zero, List.getD_cons_succ, ds0, dz0, ca0, na0] using Sp.sel S 5 [3, 2, 1, 4] (by simp only [lc0]; omega) (by decide) (by decide)
      refine S.appAll (by omega) ?_
      clear S
      intro v42 g42 S z42
      have S := by simpa only [mc0, mn0, List.getD_cons_zero, List.getD_cons_succ, ds0, dz0, ca0, na0] using Sp.sel S 3 [1, 2, 0] (by simp only [lc0]; omega) (by decide) (by decide)
      have S := S.a2join
      have hops : (init.map takeOp ++ [takeOp bad] ++ [takeOp last]) ++ [passOp] ++ ps.map takeOp = init.map takeOp ++ (takeOp bad :: takeOp last :: passOp :: (init ++ [last]).map takeOp) := by rw [hpse]; simp
      rw [hops] at S
      have hovr := overlap_run six.fam (init := init) (last := last) (by rw [← hpse]; exact six.pm) hov.key hov.c hov.h1 hov.h2 ⟨q, by
        have h1 := six.hq
        rw [hpse, List.getElem?_append_left (by omega)] at h1
        exact List.mem_of_getElem? h1, hov.o1, hov.o2, hov.o3⟩
      have hopl : (init.map takeOp ++ (takeOp bad :: takeOp last :: passOp :: (init ++ [last]).map takeOp)).length = 2 * init.length + 4 := by simp; omega
      have hIp : ∀ p ∈ ps, I64 p.off ∧ PkI p ∧ p.opts.length + p.pay.length ≤ 700 := by
        intro p hp
        have hpF := six.pm.mem_iff.1 hp
        obtain ⟨c1, c2, c3⟩ := codeB_ok (six.fam.code hpF)
        obtain ⟨a1, b1, _, hFr⟩ := six.fam.lay.frag p hpF
        have h5 : p.id = 5 := by rw [hFr.e]; exact six.w.id
        have ho : I64 p.off := ⟨by omega, by omega⟩
        exact ⟨ho, ⟨ho, ⟨by omega, by omega⟩⟩, hsz p hp⟩
      have hbI : PkI bad := by
        obtain ⟨c1, c2, c3⟩ := codeB_ok hov.c
        have h5 := hov.df
        exact ⟨⟨by omega, by omega⟩, ⟨by omega, by omega⟩⟩
      have hI : ∀ o ∈ init.map takeOp ++ (takeOp bad :: takeOp last :: passOp :: (init ++ [last]).map takeOp), (I64 o.wait ∧ PkI o.pk) ∧ o.pk.opts.length + o.pk.pay.length ≤ 1048576 := by
        have hw0 : I64 0 := ⟨by omega, by omega⟩
        have hin : ∀ o ∈ (init ++ [last]).map takeOp, (I64 o.wait ∧ PkI o.pk) ∧ o.pk.opts.length + o.pk.pay.length ≤ 1048576 := by
          intro o ho
          obtain ⟨p, hp, rfl⟩ := List.mem_map.1 ho
          obtain ⟨_, h2, h3⟩ := hIp p (by rw [hpse]; exact hp)
          exact ⟨⟨hw0, h2⟩, by show p.opts.length + p.pay.length ≤ 1048576; omega⟩
        intro o ho
        rcases List.mem_append.1 ho with ho | ho
        · exact hin o (by rw [List.map_append]; exact List.mem_append_left _ ho)
        · rcases List.mem_cons.1 ho with rfl | ho
          · exact ⟨⟨hw0, hbI⟩, by have := hov.len; rw [show (takeOp bad).pk = bad from rfl, hov.opts]; simp only [ln0]; omega⟩
          · rcases List.mem_cons.1 ho with rfl | ho
            · exact hin _ (by rw [List.map_append]; exact List.mem_append_right _ (by simp))
            · rcases List.mem_cons.1 ho with rfl | ho
              · exact ⟨⟨⟨by show -9223372036854775808 ≤ (30000 : Int); omega, by show (30000 : Int) ≤ 9223372036854775807; omega⟩, ⟨hw0, hw0⟩⟩, by show 0 + 0 ≤ 1048576; omega⟩
              · exact hin o ho
      have O := ops_of S 1 0 rfl rfl fun o ho => (hI o ho).1
      have E42 := S.ol 2 rfl
      clear S
      have hrun : runS (init.map takeOp ++ (takeOp bad :: takeOp last :: passOp :: (init ++ [last]).map takeOp)) = (runSt 0 [] (init.map takeOp ++ (takeOp bad :: takeOp last :: passOp :: (init ++ [last]).map takeOp)), 0) := if_neg (by rw [hopl]; omega)
      have hol := runSt_len (init.map takeOp ++ (takeOp bad :: takeOp last :: passOp :: (init ++ [last]).map takeOp)) 0 []
      rw [hopl] at hol
      generalize init.map takeOp ++ (takeOp bad :: takeOp last :: passOp :: (init ++ [last]).map takeOp) = OPS at O hrun hol hovr hI hopl hops
      obtain ⟨rsX, hX, hXl, _⟩ := O.sl
      have lX := hX.lenF
      rw [hXl, hopl] at lX
      try simp (disch := (first | omega | assumption | (simp only [lc0, ln0, la0]; first | done | omega) | (simp (disch := assumption) only [go_sem, one_as, Nat.reduceBEq]; done) | fail)) only [i3, i4, i5, i7, go_sem, Hold.p, HoldK.k, HoldL.K, HoldL.body, Nat.reduceBEq, Nat.reduceAdd, reduceIte]
      refine callA_of (specRun_c g42 v42 OPS O (by omega) fun o ho => (hI o ho).2) ?_
      rintro r43 g43 ⟨⟨v43, rfl, oW⟩, E43⟩
      rw [hrun] at oW ⊢
      dsimp only
      try simp (disch := (first | omega | assumption | (simp only [lc0, ln0, la0]; first | done | omega) | (simp (disch := assumption) only [go_sem, one_as, Nat.reduceBEq]; done) | fail)) only [i3, i4, i5, i7, go_sem, Hold.p, HoldK.k, HoldL.K, HoldL.body, Nat.reduceBEq, Nat.reduceAdd, reduceIte]
      refine callA_of (implRun_c g43 v42 OPS (O.ext E43) (by omega) fun o ho => (hI o ho).2) ?_
      rintro r44 g44 ⟨⟨v44, rfl, oV⟩, E44⟩
      rw [hrun] at oV ⊢
      dsimp only
      have osW := (outs_vw oW.up).ext E44
      have osV := outs_vw oV.up
      generalize runSt 0 [] OPS = OS at osW osV hol hovr
      have b4' := ((b4.ext E42).ext E43).ext E44
      have ap' := ((ap.ext E42).ext E43).ext E44
      clear oW oV hrun O
      obtain ⟨rsW, hsW, hlW, hrW⟩ := osW.sl
      obtain ⟨rsV, hsV, hlV, hrV⟩ := osV.sl
      have zW := hsW.one
      have zV := hsV.one
      have lV := hsV.lenF
      rw [hlV, hol] at lV
      obtain ⟨N, hN⟩ : ∃ N, N = 2 * init.length + 4 := ⟨_, rfl⟩
      rw [← hN] at lV lX
      have hNN : ((N : Int) == (N : Int)) = true := by simp
      have q4 := b4'.eq
      have lN : wr .i64 ((N : Int) - 1) = ((N - 1 : Nat) : Int) := by rw [wr64 _ (by omega)]; omega
      try simp (disch := (first | omega | assumption | (simp only [lc0, ln0, la0]; first | done | omega) | (simp (disch := assumption) only [go_sem, one_as, Nat.reduceBEq]; done) | fail)) only [i3, i4, i5, i7, zW, zV, lV, lX, decide_true, Bool.not_true, go_sem, Hold.p, HoldK.k, HoldL.K, HoldL.body, Nat.reduceBEq, Nat.reduceAdd, reduceIte]
      refine loop_at (fun m e g => ∃ k : Nat, m = N - k ∧ k ≤ N - 1 ∧ e 4 = .ptr p4 0 0 ∧ e 5 = .slice lo 0 rsP.length ∧ e 9 = v43 ∧ e 11 = v44 ∧ e 13 = .int .i64 (k : Nat) ∧ g = g44) N ?_ ?_
      · refine ⟨0, by omega, by omega, ?_⟩
        try simp (disch := (first | omega | assumption | (simp only [lc0, ln0, la0]; first | done | omega) | (simp (disch := assumption) only [go_sem, one_as, Nat.reduceBEq]; done) | fail)) only [i4, i5, go_sem, Hold.p, HoldK.k, HoldL.K, HoldL.body, Nat.reduceBEq, Nat.reduceAdd, reduceIte]
        rfl
      · rintro m e g ⟨k, rfl, hk, j4, j5, j9, j11, j13, rfl⟩
        have rowAt : ∀ (k : Nat), k < N → ∃ (o : Ot) (l j l' j' : Nat) (xo xp xe yo yp ye : IV), OS[k]? = some o ∧ iadrF g 16 v43 (.int .i64 (k : Nat)) = some (.ptr l j 0) ∧ rowO (g.obj l) j = some (outRow o xo xp xe) ∧
            iadrF g 16 v44 (.int .i64 (k : Nat)) = some (.ptr l' j' 0) ∧ rowO (g.obj l') j' = some (outRow o yo yp ye) ∧ PkAt g o.pk yo yp := by
          intro k hk
          obtain ⟨o, ho⟩ : ∃ o, OS[k]? = some o := ⟨_, List.getElem?_eq_getElem (by omega : k < OS.length)⟩
          obtain ⟨xo, xp, xe, hr1, _, _⟩ := hrW k o ho
          obtain ⟨yo, yp, ye, hr2, hap, _⟩ := hrV k o ho
          obtain ⟨l, j, hia, _, har⟩ := hsW.at hr1 .i64
          obtain ⟨l', j', hia', _, har'⟩ := hsV.at hr2 .i64
          exact ⟨o, l, j, l', j', xo, xp, xe, yo, yp, ye, ho, hia, har, hia', har', hap⟩
        try simp (disch := (first | omega | assumption | (simp only [lc0, ln0, la0]; first | done | omega) | (simp (disch := assumption) only [go_sem, one_as, Nat.reduceBEq]; done) | fail)) only [j4, j5, j9, j11, j13, lV, lN, go_sem, Hold.p, HoldK.k, HoldL.K, HoldL.body, Nat.reduceBEq, Nat.reduceAdd, reduceIte]
        refine test_dec (fun hb => ?_) (fun hb => ?_)
        · obtain ⟨o, l, j, l', j', xo, xp, xe, yo, yp, ye, ho, h1, h2, h3, h4, _⟩ := rowAt k (by omega)
          have c1 := cellO_row h2
          have c2 := cellO_row h4
          have hd := (hovr k o ho).1 (by omega)
          have wk : wr .i64 ((k : Int) + 1) = ((k + 1 : Nat) : Int) := by rw [wr64 _ (by omega)]; rfl
          try simp (disch := (first | omega | assumption | (simp only [lc0, ln0, la0]; first | done | omega) | (simp (disch := assumption) only [go_sem, one_as, Nat.reduceBEq]; done) | fail)) only [j4, j5, j9, j11, j13, lV, lN, h1, h3, c1, c2, hd, wk, decide_true, Bool.not_true, go_sem, Hold.p, HoldK.k, HoldL.K, HoldL.body, Nat.reduceBEq, Nat.reduceAdd, reduceIte]
          exact ⟨N - (k + 1), by omega, k + 1, rfl, by omega, rfl⟩
        · obtain ⟨o1, _, _, l1, k1, _, _, _, _, _, _, ho1, _, _, h11, h12, _⟩ := rowAt rsP.length (by omega)
          obtain ⟨o2, _, _, l2, k2, _, _, _, _, _, _, ho2, _, _, h21, h22, _⟩ := rowAt (rsP.length + 1) (by omega)
          obtain ⟨o3, _, _, l3, k3, _, _, _, yo, yp, ye, ho3, _, _, h31, h32, hap⟩ := rowAt (N - 1) (by omega)
          have c1 := cellO_row h12
          have c2 := cellO_row h22
          have c3 := cellO_row h32
          have e1 := (hovr _ o1 ho1).2.1 (by omega)
          have e2 := (hovr _ o2 ho2).2.2.1 (by omega)
          obtain ⟨e3, e4⟩ := (hovr _ o3 ho3).2.2.2 (by omega)
          rw [e4] at hap
          have wa : wr .i64 ((rsP.length : Int) + 1) = ((rsP.length + 1 : Nat) : Int) := by rw [wr64 _ (by omega)]; rfl
          have y1 := hap.o.one
          have y2 := hap.p.one
          unfold outRow at h32
          rw [e4] at h32
          try simp (disch := (first | omega | assumption | (simp only [lc0, ln0, la0]; first | done | omega) | (simp (disch := assumption) only [go_sem, one_as, Nat.reduceBEq]; done) | fail)) only [j4, j5, j9, j11, j13, lV, lN, h11, h21, h31, c1, c2, c3, h32, e1, e2, e3, wa, q4, decide_true, Bool.not_true, go_sem, Hold.p, HoldK.k, HoldL.K, HoldL.body, Nat.reduceBEq, Nat.reduceAdd, reduceIte]
          refine callA_of (lwPacket_c g P yo yp .nilslice vq hap ap') ?_
          rintro r50 g50 ⟨rfl, E50⟩
          try simp (disch := (first | omega | assumption | (simp only [lc0, ln0, la0]; first | done | omega) | (simp (disch := assumption) only [go_sem, one_as, Nat.reduceBEq]; done) | fail)) only [go_sem, Hold.p, HoldK.k, HoldL.K, HoldL.body, Nat.reduceBEq, Nat.reduceAdd, reduceIte]
end
end Go.Proofs.Ytjmmmmdpkfpojaa
