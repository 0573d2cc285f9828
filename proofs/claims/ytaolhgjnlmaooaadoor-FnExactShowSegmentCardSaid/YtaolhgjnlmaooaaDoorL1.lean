import Derived.Test.YtaolhgjnlmaooaaDoorK2
import Derived.Test.YtaolhgjnlmaooaaDoorProg
import Derived.KernelRfl
import Derived.Shelf.Strings.OnBuilder
import Derived.Shelf.Strings.Trim
import Derived.Shelf.Strconv.Itoa4
import Derived.Shelf.Hex.More
import Derived.Test.YtaolhgjnlmaooaaDoorK3
import Derived.Lib.TrimByte
set_option linter.unusedSimpArgs false
set_option linter.unusedVariables false
namespace Go.Proofs.YtaolhgjnlmaooaaDoor
open Go Go.IW
/-- loop.example/g00003/laws.FnExactShowSegment -/
def c3 : CC :=
 (.seq (.reg [
   ⟨(some 1), none, .x (.box 25 12 (.t 0))⟩,
   ⟨(some 2), none, .f (.mv (.c (.bool false)))⟩])
 (.seq (.reg [
   ⟨(some 3), none, .f (.mv (.c (.int .i64 1048576)))⟩])
 (.seq (.reg [
   ⟨(some 9), none, .f (.ldA 12 (.t 1))⟩,
   ⟨(some 10), none, .f (.mv (.t 3))⟩,
   ⟨(some 11), none, .x (.call 6 [(.t 9), (.t 10)])⟩,
   ⟨(some 3), none, .f (.mv (.t 11))⟩])
 (.seq (.seq (.reg [
   ⟨(some 12), none, .f (.mv (.t 3))⟩,
   ⟨(some 13), none, .f (.bin .lss (.t 12) (.c (.int .i64 0)))⟩])
 (.cond (.t 13)
  (.seq (.reg [
    ⟨(some 2), none, .f (.mv (.c (.bool true)))⟩])
  .ret)
  .skip))
 (.seq (.reg [
   ⟨(some 15), none, .f (.ldA 12 (.t 1))⟩,
   ⟨(some 16), none, .x (.call 8 [(.t 15)])⟩,
   ⟨(some 17), none, .x (.call 7 [(.t 16)])⟩,
   ⟨(some 14), none, .f (.mv (.t 17))⟩,
   ⟨(some 18), none, .f (.ext 0 (.t 14))⟩,
   ⟨(some 19), none, .f (.ext 1 (.t 14))⟩,
   ⟨(some 4), none, .f (.mv (.t 18))⟩,
   ⟨(some 5), none, .f (.mv (.t 19))⟩])
 (.seq (.reg [
   ⟨(some 20), none, .f (.ldA 12 (.t 1))⟩,
   ⟨(some 21), none, .x (.call 8 [(.t 20)])⟩,
   ⟨(some 6), none, .x (.zero 31 12 [(.int .i64 0), (.int .i64 0), (.int .i64 0), (.int .i64 0), (.int .i64 0), (.int .i64 0), (.int .i64 0), (.bool false), (.int .i64 0), (.bool false), .nilslice, .nilslice])⟩,
   ⟨none, none, .x (.st 12 (.t 6) (.t 21))⟩])
 (.seq (.reg [
   ⟨(some 23), none, .f (.ldA 12 (.t 6))⟩,
   ⟨(some 24), none, .x (.call 9 [(.t 23)])⟩,
   ⟨(some 22), none, .f (.mv (.t 24))⟩,
   ⟨(some 25), none, .f (.ext 0 (.t 22))⟩,
   ⟨(some 26), none, .f (.ext 1 (.t 22))⟩,
   ⟨(some 7), none, .f (.mv (.t 25))⟩,
   ⟨(some 8), none, .f (.mv (.t 26))⟩])
 (.seq (.seq (.reg [
   ⟨(some 27), none, .f (.mv (.t 7))⟩,
   ⟨(some 28), none, .f (.mv (.t 4))⟩,
   ⟨(some 29), none, .f (.bin .neq (.t 27) (.t 28))⟩,
   ⟨(some 30), none, .f (.mv (.t 29))⟩,
   ⟨(some 31), (some (30, false)), .f (.mv (.t 8))⟩,
   ⟨(some 32), (some (30, false)), .f (.mv (.t 5))⟩,
   ⟨(some 33), (some (30, false)), .f (.bin .neq (.t 31) (.t 32))⟩,
   ⟨(some 34), none, .f (.pick (.t 30) (.c (.bool true)) (.t 33))⟩])
 (.cond (.t 34)
  (.seq (.reg [
    ⟨(some 2), none, .f (.mv (.c (.bool false)))⟩])
  .ret)
  .skip))
 (.seq (.seq (.dreg [
   ⟨(some 35), none, .f (.ldA 12 (.t 6))⟩,
   ⟨(some 36), none, .f (.ldA 12 (.t 1))⟩,
   ⟨(some 37), none, .x (.call 8 [(.t 36)])⟩,
   ⟨(some 38), none, .x (.call 10 [(.t 35), (.t 37)])⟩,
   ⟨(some 39), none, .f (.un .not (.t 38))⟩]
   [false, false, true, true, false] [[], [], [1], [0, 2, 1], [3, 0, 2, 1]] [0, 1, 2, 3, 4])
 (.cond (.t 39)
  (.seq (.reg [
    ⟨(some 2), none, .f (.mv (.c (.bool false)))⟩])
  .ret)
  .skip))
 (.seq (.reg [
   ⟨(some 2), none, .f (.mv (.c (.bool true)))⟩])
 .ret))))))))))
theorem ok3 : fnComp Tryd.prog 3 = some (40, c3, [(.mv (.t 2))]) := by kernel_rfl

/-- loop.example/g00003/spec.ShowSegment -/
def c7 : CC :=
 (.seq (.reg [
   ⟨(some 1), none, .x (.box 31 12 (.t 0))⟩,
   ⟨(some 2), none, .f (.mv (.c (.str [])))⟩,
   ⟨(some 3), none, .f (.mv (.c (.int .i64 0)))⟩])
 (.seq (.seq (.reg [
   ⟨(some 7), none, .f (.ldA 12 (.t 1))⟩,
   ⟨(some 8), none, .x (.call 28 [(.t 7)])⟩,
   ⟨(some 9), none, .f (.un .not (.t 8))⟩,
   ⟨(some 10), none, .f (.mv (.t 9))⟩,
   ⟨(some 11), (some (10, false)), .f (.fadr 11 (.t 1))⟩,
   ⟨(some 12), (some (10, false)), .f (.ld (.t 11))⟩,
   ⟨(some 13), (some (10, false)), .f (.len (.t 12))⟩,
   ⟨(some 14), (some (10, false)), .f (.bin .gtr (.t 13) (.c (.int .i64 4000)))⟩,
   ⟨(some 15), none, .f (.pick (.t 10) (.c (.bool true)) (.t 14))⟩])
 (.cond (.t 15)
  (.seq (.reg [
    ⟨(some 2), none, .f (.mv (.c (.str [])))⟩,
    ⟨(some 3), none, .f (.mv (.c (.int .i64 1)))⟩])
  .ret)
  .skip))
 (.seq (.dreg [
   ⟨(some 16), none, .f (.fadr 0 (.t 1))⟩,
   ⟨(some 17), none, .f (.ld (.t 16))⟩,
   ⟨(some 18), none, .x (.call 29 [(.t 17)])⟩,
   ⟨(some 19), none, .f (.bin .add (.t 18) (.c (.str [62])))⟩,
   ⟨(some 20), none, .f (.fadr 1 (.t 1))⟩,
   ⟨(some 21), none, .f (.ld (.t 20))⟩,
   ⟨(some 22), none, .x (.call 29 [(.t 21)])⟩,
   ⟨(some 23), none, .f (.bin .add (.t 19) (.t 22))⟩,
   ⟨(some 24), none, .f (.bin .add (.t 23) (.c (.str [32])))⟩,
   ⟨(some 4), none, .f (.mv (.t 24))⟩]
   [false, false, true, false, false, false, true, false, false, false] [[], [0], [1, 0], [2, 1, 0], [], [4], [5, 4, 2, 1, 0], [3, 2, 1, 0, 6, 5, 4], [7, 3, 2, 1, 0, 6, 5, 4], [8, 7, 3, 2, 1, 0, 6, 5, 4]] [0, 1, 4, 5, 2, 3, 6, 7, 8, 9])
 (.seq (.seq (.reg [
   ⟨(some 25), none, .f (.fadr 4 (.t 1))⟩,
   ⟨(some 26), none, .f (.ld (.t 25))⟩,
   ⟨(some 27), none, .f (.bin .eql (.t 26) (.c (.int .i64 0)))⟩])
 (.cond (.t 27)
  (.reg [
    ⟨(some 28), none, .f (.mv (.t 4))⟩,
    ⟨(some 29), none, .f (.bin .add (.t 28) (.c (.str [45])))⟩,
    ⟨(some 4), none, .f (.mv (.t 29))⟩])
  .skip))
 (.seq (.seq (.reg [
   ⟨(some 5), none, .f (.mv (.c (.int .i64 0)))⟩])
 (.block 0 (.loop (.seq (.seq (.reg [
     ⟨(some 30), none, .f (.mv (.t 5))⟩,
     ⟨(some 31), none, .f (.bin .lss (.t 30) (.c (.int .i64 6)))⟩])
   (.cond (.t 31)
    .skip
    (.exit 0)))
   (.seq (.block 1 (.seq (.dreg [
      ⟨(some 34), none, .f (.ldA 12 (.t 1))⟩,
      ⟨(some 35), none, .f (.mv (.t 5))⟩,
      ⟨(some 36), none, .x (.call 31 [(.t 35)])⟩,
      ⟨(some 37), none, .x (.call 30 [(.t 34), (.t 36)])⟩]
      [false, false, true, true] [[], [], [1], [0, 2, 1]] [0, 1, 2, 3])
    (.cond (.t 37)
     (.reg [
       ⟨(some 38), none, .f (.mv (.t 4))⟩,
       ⟨(some 39), none, .f (.mv (.t 5))⟩,
       ⟨(some 40), none, .f (.mv (.t 5))⟩,
       ⟨(some 41), none, .f (.bin .add (.t 40) (.c (.int .i64 1)))⟩,
       ⟨(some 42), none, .f (.slcS (.c (.str [83, 70, 82, 80, 65, 85])) (some (.t 39)) (some (.t 41)))⟩,
       ⟨(some 43), none, .f (.bin .add (.t 38) (.t 42))⟩,
       ⟨(some 4), none, .f (.mv (.t 43))⟩])
     .skip)))
   (.reg [
     ⟨(some 32), none, .f (.mv (.t 5))⟩,
     ⟨(some 33), none, .f (.bin .add (.t 32) (.c (.int .i64 1)))⟩,
     ⟨(some 5), none, .f (.mv (.t 33))⟩]))))))
 (.seq (.dreg [
   ⟨(some 44), none, .f (.mv (.t 4))⟩,
   ⟨(some 45), none, .f (.bin .add (.t 44) (.c (.str [32])))⟩,
   ⟨(some 46), none, .f (.fadr 2 (.t 1))⟩,
   ⟨(some 47), none, .f (.ld (.t 46))⟩,
   ⟨(some 48), none, .x (.call 29 [(.t 47)])⟩,
   ⟨(some 49), none, .f (.bin .add (.t 45) (.t 48))⟩,
   ⟨(some 50), none, .f (.bin .add (.t 49) (.c (.str [32])))⟩,
   ⟨(some 51), none, .f (.fadr 3 (.t 1))⟩,
   ⟨(some 52), none, .f (.ld (.t 51))⟩,
   ⟨(some 53), none, .x (.call 29 [(.t 52)])⟩,
   ⟨(some 54), none, .f (.bin .add (.t 50) (.t 53))⟩,
   ⟨(some 55), none, .f (.bin .add (.t 54) (.c (.str [32])))⟩,
   ⟨(some 56), none, .f (.fadr 5 (.t 1))⟩,
   ⟨(some 57), none, .f (.ld (.t 56))⟩,
   ⟨(some 58), none, .x (.call 29 [(.t 57)])⟩,
   ⟨(some 59), none, .f (.bin .add (.t 55) (.t 58))⟩,
   ⟨(some 4), none, .f (.mv (.t 59))⟩]
   [false, false, false, false, true, false, false, false, false, true, false, false, false, false, true, false, true] [[], [0], [], [2], [3, 2], [1, 0, 4, 3, 2], [5, 1, 0, 4, 3, 2], [], [7], [8, 7, 4, 3, 2], [6, 5, 1, 0, 4, 3, 2, 9, 8, 7], [10, 6, 5, 1, 0, 4, 3, 2, 9, 8, 7], [], [12], [13, 12, 9, 8, 7, 4, 3, 2], [11, 10, 6, 5, 1, 0, 4, 3, 2, 9, 8, 7, 14, 13, 12], [15, 11, 10, 6, 5, 1, 0, 4, 3, 2, 9, 8, 7, 14, 13, 12]] [0, 1, 2, 3, 7, 8, 12, 13, 4, 5, 6, 9, 10, 11, 14, 15, 16])
 (.seq (.seq (.reg [
   ⟨(some 60), none, .f (.fadr 6 (.t 1))⟩,
   ⟨(some 61), none, .f (.ld (.t 60))⟩,
   ⟨(some 62), none, .f (.bin .neq (.t 61) (.c (.int .i64 0)))⟩])
 (.cond (.t 62)
  (.reg [
    ⟨(some 63), none, .f (.mv (.t 4))⟩,
    ⟨(some 64), none, .f (.bin .add (.t 63) (.c (.str [32, 109, 115, 115, 32])))⟩,
    ⟨(some 65), none, .f (.fadr 6 (.t 1))⟩,
    ⟨(some 66), none, .f (.ld (.t 65))⟩,
    ⟨(some 67), none, .x (.call 29 [(.t 66)])⟩,
    ⟨(some 68), none, .f (.bin .add (.t 64) (.t 67))⟩,
    ⟨(some 4), none, .f (.mv (.t 68))⟩])
  .skip))
 (.seq (.seq (.reg [
   ⟨(some 69), none, .f (.fadr 7 (.t 1))⟩,
   ⟨(some 70), none, .f (.ld (.t 69))⟩])
 (.cond (.t 70)
  (.reg [
    ⟨(some 71), none, .f (.mv (.t 4))⟩,
    ⟨(some 72), none, .f (.bin .add (.t 71) (.c (.str [32, 115, 99, 97, 108, 101, 32])))⟩,
    ⟨(some 73), none, .f (.fadr 8 (.t 1))⟩,
    ⟨(some 74), none, .f (.ld (.t 73))⟩,
    ⟨(some 75), none, .x (.call 29 [(.t 74)])⟩,
    ⟨(some 76), none, .f (.bin .add (.t 72) (.t 75))⟩,
    ⟨(some 4), none, .f (.mv (.t 76))⟩])
  .skip))
 (.seq (.seq (.reg [
   ⟨(some 77), none, .f (.fadr 9 (.t 1))⟩,
   ⟨(some 78), none, .f (.ld (.t 77))⟩])
 (.cond (.t 78)
  (.reg [
    ⟨(some 79), none, .f (.mv (.t 4))⟩,
    ⟨(some 80), none, .f (.bin .add (.t 79) (.c (.str [32, 115, 97, 99, 107, 111, 107])))⟩,
    ⟨(some 4), none, .f (.mv (.t 80))⟩])
  .skip))
 (.seq (.seq (.reg [
   ⟨(some 6), none, .f (.mv (.c (.int .i64 0)))⟩])
 (.block 2 (.loop (.seq (.seq (.reg [
     ⟨(some 81), none, .f (.mv (.t 6))⟩,
     ⟨(some 82), none, .f (.fadr 10 (.t 1))⟩,
     ⟨(some 83), none, .f (.ld (.t 82))⟩,
     ⟨(some 84), none, .f (.len (.t 83))⟩,
     ⟨(some 85), none, .f (.bin .lss (.t 81) (.t 84))⟩])
   (.cond (.t 85)
    .skip
    (.exit 2)))
   (.seq (.block 3 (.dreg [
      ⟨(some 88), none, .f (.mv (.t 4))⟩,
      ⟨(some 89), none, .f (.bin .add (.t 88) (.c (.str [32, 115, 97, 99, 107, 32])))⟩,
      ⟨(some 90), none, .f (.fadr 10 (.t 1))⟩,
      ⟨(some 91), none, .f (.ld (.t 90))⟩,
      ⟨(some 92), none, .f (.mv (.t 6))⟩,
      ⟨(some 93), none, .f (.iadr 2 (.t 91) (.t 92))⟩,
      ⟨(some 94), none, .f (.fadr 0 (.t 93))⟩,
      ⟨(some 95), none, .f (.ld (.t 94))⟩,
      ⟨(some 96), none, .x (.call 29 [(.t 95)])⟩,
      ⟨(some 97), none, .f (.bin .add (.t 89) (.t 96))⟩,
      ⟨(some 98), none, .f (.bin .add (.t 97) (.c (.str [45])))⟩,
      ⟨(some 99), none, .f (.fadr 10 (.t 1))⟩,
      ⟨(some 100), none, .f (.ld (.t 99))⟩,
      ⟨(some 101), none, .f (.mv (.t 6))⟩,
      ⟨(some 102), none, .f (.iadr 2 (.t 100) (.t 101))⟩,
      ⟨(some 103), none, .f (.fadr 1 (.t 102))⟩,
      ⟨(some 104), none, .f (.ld (.t 103))⟩,
      ⟨(some 105), none, .x (.call 29 [(.t 104)])⟩,
      ⟨(some 106), none, .f (.bin .add (.t 98) (.t 105))⟩,
      ⟨(some 4), none, .f (.mv (.t 106))⟩]
      [false, false, false, false, false, false, false, false, true, false, false, false, false, false, false, false, false, true, false, true] [[], [0], [], [2], [], [3, 2, 4], [5, 3, 2, 4], [6, 5, 3, 2, 4], [7, 6, 5, 3, 2, 4], [1, 0, 8, 7, 6, 5, 3, 2, 4], [9, 1, 0, 8, 7, 6, 5, 3, 2, 4], [], [11], [], [12, 11, 13], [14, 12, 11, 13], [15, 14, 12, 11, 13], [16, 15, 14, 12, 11, 13, 8, 7, 6, 5, 3, 2, 4], [10, 9, 1, 0, 8, 7, 6, 5, 3, 2, 4, 17, 16, 15, 14, 12, 11, 13], [18, 10, 9, 1, 0, 8, 7, 6, 5, 3, 2, 4, 17, 16, 15, 14, 12, 11, 13]] [0, 1, 2, 3, 4, 5, 6, 7, 11, 12, 13, 14, 15, 16, 8, 9, 10, 17, 18, 19]))
   (.reg [
     ⟨(some 86), none, .f (.mv (.t 6))⟩,
     ⟨(some 87), none, .f (.bin .add (.t 86) (.c (.int .i64 1)))⟩,
     ⟨(some 6), none, .f (.mv (.t 87))⟩]))))))
 (.seq (.seq (.reg [
   ⟨(some 107), none, .f (.fadr 11 (.t 1))⟩,
   ⟨(some 108), none, .f (.ld (.t 107))⟩,
   ⟨(some 109), none, .f (.len (.t 108))⟩,
   ⟨(some 110), none, .f (.bin .gtr (.t 109) (.c (.int .i64 0)))⟩])
 (.cond (.t 110)
  (.reg [
    ⟨(some 111), none, .f (.mv (.t 4))⟩,
    ⟨(some 112), none, .f (.bin .add (.t 111) (.c (.str [32, 100, 97, 116, 97, 32])))⟩,
    ⟨(some 113), none, .f (.fadr 11 (.t 1))⟩,
    ⟨(some 114), none, .f (.ld (.t 113))⟩,
    ⟨(some 115), none, .x (.call 32 [(.t 114)])⟩,
    ⟨(some 116), none, .f (.bin .add (.t 112) (.t 115))⟩,
    ⟨(some 4), none, .f (.mv (.t 116))⟩])
  .skip))
 (.seq (.reg [
   ⟨(some 117), none, .f (.mv (.t 4))⟩,
   ⟨(some 2), none, .f (.mv (.t 117))⟩,
   ⟨(some 3), none, .f (.mv (.c (.int .i64 0)))⟩])
 .ret))))))))))))
theorem ok7 : fnComp Tryd.prog 7 = some (118, c7, [(.mv (.t 2)), (.mv (.t 3))]) := by kernel_rfl

/-- loop.example/g00003/impl.ShowSegment -/
def c9 : CC :=
 (.seq (.reg [
   ⟨(some 1), none, .x (.box 31 12 (.t 0))⟩,
   ⟨(some 2), none, .f (.mv (.c (.str [])))⟩,
   ⟨(some 3), none, .f (.mv (.c (.int .i64 0)))⟩])
 (.seq (.seq (.reg [
   ⟨(some 10), none, .f (.ldA 12 (.t 1))⟩,
   ⟨(some 11), none, .x (.call 35 [(.t 10)])⟩,
   ⟨(some 12), none, .f (.un .not (.t 11))⟩,
   ⟨(some 13), none, .f (.mv (.t 12))⟩,
   ⟨(some 14), (some (13, false)), .f (.fadr 11 (.t 1))⟩,
   ⟨(some 15), (some (13, false)), .f (.ld (.t 14))⟩,
   ⟨(some 16), (some (13, false)), .f (.len (.t 15))⟩,
   ⟨(some 17), (some (13, false)), .f (.bin .gtr (.t 16) (.c (.int .i64 4000)))⟩,
   ⟨(some 18), none, .f (.pick (.t 13) (.c (.bool true)) (.t 17))⟩])
 (.cond (.t 18)
  (.seq (.reg [
    ⟨(some 2), none, .f (.mv (.c (.str [])))⟩,
    ⟨(some 3), none, .f (.mv (.c (.int .i64 1)))⟩])
  .ret)
  .skip))
 (.seq (.reg [
   ⟨(some 4), none, .f (.mv (.c (.str [])))⟩])
 (.seq (.seq (.reg [
   ⟨(some 19), none, .x (.bslice 3 1 [(.int .i64 0)] 6 [(0, (.c (.int .i64 1))), (1, (.c (.int .i64 0))), (2, (.c (.int .i64 2))), (3, (.c (.int .i64 3))), (4, (.c (.int .i64 4))), (5, (.c (.int .i64 5)))])⟩,
   ⟨(some 20), none, .f (.len (.t 19))⟩,
   ⟨(some 21), none, .f (.mv (.c (.int .i64 0)))⟩])
 (.block 0 (.loop (.seq (.reg [
     ⟨(some 22), none, .f (.bin .lss (.t 21) (.t 20))⟩])
   (.seq (.cond (.t 22)
    .skip
    (.exit 0))
   (.seq (.block 1 (.seq (.reg [
      ⟨(some 23), none, .f (.iadr 1 (.t 19) (.t 21))⟩,
      ⟨(some 24), none, .f (.ld (.t 23))⟩,
      ⟨(some 6), none, .f (.mv (.t 24))⟩])
    (.seq (.reg [
      ⟨(some 25), none, .f (.fadr 4 (.t 1))⟩,
      ⟨(some 26), none, .f (.ld (.t 25))⟩,
      ⟨(some 27), none, .f (.mv (.t 6))⟩,
      ⟨(some 28), none, .f (.bin .shr (.t 26) (.t 27))⟩,
      ⟨(some 29), none, .f (.bin .and (.t 28) (.c (.int .i64 1)))⟩,
      ⟨(some 30), none, .f (.bin .eql (.t 29) (.c (.int .i64 1)))⟩])
    (.cond (.t 30)
     (.reg [
       ⟨(some 31), none, .f (.mv (.t 4))⟩,
       ⟨(some 32), none, .f (.mv (.t 6))⟩,
       ⟨(some 33), none, .f (.mv (.t 6))⟩,
       ⟨(some 34), none, .f (.bin .add (.t 33) (.c (.int .i64 1)))⟩,
       ⟨(some 35), none, .f (.slcS (.c (.str [70, 83, 82, 80, 65, 85])) (some (.t 32)) (some (.t 34)))⟩,
       ⟨(some 36), none, .f (.bin .add (.t 31) (.t 35))⟩,
       ⟨(some 4), none, .f (.mv (.t 36))⟩])
     .skip))))
   (.reg [
     ⟨(some 37), none, .f (.bin .add (.t 21) (.c (.int .i64 1)))⟩,
     ⟨(some 21), none, .f (.mv (.t 37))⟩])))))))
 (.seq (.seq (.reg [
   ⟨(some 38), none, .f (.mv (.t 4))⟩,
   ⟨(some 39), none, .f (.bin .eql (.t 38) (.c (.str [])))⟩])
 (.cond (.t 39)
  (.reg [
    ⟨(some 4), none, .f (.mv (.c (.str [45])))⟩])
  .skip))
 (.seq (.dreg [
   ⟨(some 40), none, .f (.fadr 0 (.t 1))⟩,
   ⟨(some 41), none, .f (.ld (.t 40))⟩,
   ⟨(some 42), none, .x (.call 36 [(.t 41)])⟩,
   ⟨(some 43), none, .f (.bin .add (.t 42) (.c (.str [62])))⟩,
   ⟨(some 44), none, .f (.fadr 1 (.t 1))⟩,
   ⟨(some 45), none, .f (.ld (.t 44))⟩,
   ⟨(some 46), none, .x (.call 36 [(.t 45)])⟩,
   ⟨(some 47), none, .f (.bin .add (.t 43) (.t 46))⟩,
   ⟨(some 48), none, .f (.mv (.t 4))⟩,
   ⟨(some 49), none, .f (.fadr 2 (.t 1))⟩,
   ⟨(some 50), none, .f (.ld (.t 49))⟩,
   ⟨(some 51), none, .x (.call 36 [(.t 50)])⟩,
   ⟨(some 52), none, .f (.fadr 3 (.t 1))⟩,
   ⟨(some 53), none, .f (.ld (.t 52))⟩,
   ⟨(some 54), none, .x (.call 36 [(.t 53)])⟩,
   ⟨(some 55), none, .f (.fadr 5 (.t 1))⟩,
   ⟨(some 56), none, .f (.ld (.t 55))⟩,
   ⟨(some 57), none, .x (.call 36 [(.t 56)])⟩,
   ⟨(some 58), none, .x (.bslice 9 1 [(.str [])] 5 [(0, (.t 47)), (1, (.t 48)), (2, (.t 51)), (3, (.t 54)), (4, (.t 57))])⟩,
   ⟨(some 7), none, .f (.mv (.t 58))⟩]
   [false, false, true, false, false, false, true, false, false, false, false, true, false, false, true, false, false, true, true, false] [[], [0], [1, 0], [2, 1, 0], [], [4], [5, 4, 2, 1, 0], [3, 2, 1, 0, 6, 5, 4], [], [], [9], [10, 9, 6, 5, 4, 2, 1, 0], [], [12], [13, 12, 11, 10, 9, 6, 5, 4, 2, 1, 0], [], [15], [16, 15, 14, 13, 12, 11, 10, 9, 6, 5, 4, 2, 1, 0], [7, 3, 2, 1, 0, 6, 5, 4, 8, 11, 10, 9, 14, 13, 12, 17, 16, 15], [18, 7, 3, 2, 1, 0, 6, 5, 4, 8, 11, 10, 9, 14, 13, 12, 17, 16, 15]] [0, 1, 4, 5, 8, 9, 10, 12, 13, 15, 16, 2, 3, 6, 7, 11, 14, 17, 18, 19])
 (.seq (.seq (.reg [
   ⟨(some 59), none, .f (.fadr 6 (.t 1))⟩,
   ⟨(some 60), none, .f (.ld (.t 59))⟩,
   ⟨(some 61), none, .f (.bin .neq (.t 60) (.c (.int .i64 0)))⟩])
 (.cond (.t 61)
  (.reg [
    ⟨(some 62), none, .f (.mv (.t 7))⟩,
    ⟨(some 63), none, .f (.fadr 6 (.t 1))⟩,
    ⟨(some 64), none, .f (.ld (.t 63))⟩,
    ⟨(some 65), none, .x (.call 36 [(.t 64)])⟩,
    ⟨(some 66), none, .x (.bslice 9 1 [(.str [])] 2 [(0, (.c (.str [109, 115, 115]))), (1, (.t 65))])⟩,
    ⟨(some 67), none, .x (.app 9 1 16 (.t 62) (.t 66))⟩,
    ⟨(some 7), none, .f (.mv (.t 67))⟩])
  .skip))
 (.seq (.seq (.reg [
   ⟨(some 68), none, .f (.fadr 7 (.t 1))⟩,
   ⟨(some 69), none, .f (.ld (.t 68))⟩])
 (.cond (.t 69)
  (.reg [
    ⟨(some 70), none, .f (.mv (.t 7))⟩,
    ⟨(some 71), none, .f (.fadr 8 (.t 1))⟩,
    ⟨(some 72), none, .f (.ld (.t 71))⟩,
    ⟨(some 73), none, .x (.call 36 [(.t 72)])⟩,
    ⟨(some 74), none, .x (.bslice 9 1 [(.str [])] 2 [(0, (.c (.str [115, 99, 97, 108, 101]))), (1, (.t 73))])⟩,
    ⟨(some 75), none, .x (.app 9 1 16 (.t 70) (.t 74))⟩,
    ⟨(some 7), none, .f (.mv (.t 75))⟩])
  .skip))
 (.seq (.seq (.reg [
   ⟨(some 76), none, .f (.fadr 9 (.t 1))⟩,
   ⟨(some 77), none, .f (.ld (.t 76))⟩])
 (.cond (.t 77)
  (.reg [
    ⟨(some 78), none, .f (.mv (.t 7))⟩,
    ⟨(some 79), none, .x (.bslice 9 1 [(.str [])] 1 [(0, (.c (.str [115, 97, 99, 107, 111, 107])))])⟩,
    ⟨(some 80), none, .x (.app 9 1 16 (.t 78) (.t 79))⟩,
    ⟨(some 7), none, .f (.mv (.t 80))⟩])
  .skip))
 (.seq (.seq (.reg [
   ⟨(some 81), none, .f (.fadr 10 (.t 1))⟩,
   ⟨(some 82), none, .f (.ld (.t 81))⟩,
   ⟨(some 83), none, .f (.len (.t 82))⟩,
   ⟨(some 84), none, .f (.mv (.c (.int .i64 0)))⟩])
 (.block 2 (.loop (.seq (.reg [
     ⟨(some 85), none, .f (.bin .lss (.t 84) (.t 83))⟩])
   (.seq (.cond (.t 85)
    .skip
    (.exit 2))
   (.seq (.block 3 (.seq (.reg [
      ⟨(some 86), none, .f (.iadr 2 (.t 82) (.t 84))⟩,
      ⟨(some 87), none, .f (.ldA 2 (.t 86))⟩,
      ⟨(some 9), none, .x (.zero 66 2 [(.int .i64 0), (.int .i64 0)])⟩,
      ⟨none, none, .x (.st 2 (.t 9) (.t 87))⟩])
    (.dreg [
      ⟨(some 88), none, .f (.mv (.t 7))⟩,
      ⟨(some 89), none, .f (.fadr 0 (.t 9))⟩,
      ⟨(some 90), none, .f (.ld (.t 89))⟩,
      ⟨(some 91), none, .x (.call 36 [(.t 90)])⟩,
      ⟨(some 92), none, .f (.bin .add (.t 91) (.c (.str [45])))⟩,
      ⟨(some 93), none, .f (.fadr 1 (.t 9))⟩,
      ⟨(some 94), none, .f (.ld (.t 93))⟩,
      ⟨(some 95), none, .x (.call 36 [(.t 94)])⟩,
      ⟨(some 96), none, .f (.bin .add (.t 92) (.t 95))⟩,
      ⟨(some 97), none, .x (.bslice 9 1 [(.str [])] 2 [(0, (.c (.str [115, 97, 99, 107]))), (1, (.t 96))])⟩,
      ⟨(some 98), none, .x (.app 9 1 16 (.t 88) (.t 97))⟩,
      ⟨(some 7), none, .f (.mv (.t 98))⟩]
      [false, false, false, true, false, false, false, true, false, true, true, true] [[], [], [1], [2, 1], [3, 2, 1], [], [5], [6, 5, 3, 2, 1], [4, 3, 2, 1, 7, 6, 5], [8, 4, 3, 2, 1, 7, 6, 5], [0, 9, 8, 4, 3, 2, 1, 7, 6, 5], [10, 0, 9, 8, 4, 3, 2, 1, 7, 6, 5]] [0, 1, 2, 5, 6, 3, 4, 7, 8, 9, 10, 11])))
   (.reg [
     ⟨(some 99), none, .f (.bin .add (.t 84) (.c (.int .i64 1)))⟩,
     ⟨(some 84), none, .f (.mv (.t 99))⟩])))))))
 (.seq (.seq (.reg [
   ⟨(some 100), none, .f (.fadr 11 (.t 1))⟩,
   ⟨(some 101), none, .f (.ld (.t 100))⟩,
   ⟨(some 102), none, .f (.len (.t 101))⟩,
   ⟨(some 103), none, .f (.bin .gtr (.t 102) (.c (.int .i64 0)))⟩])
 (.cond (.t 103)
  (.reg [
    ⟨(some 104), none, .f (.mv (.t 7))⟩,
    ⟨(some 105), none, .f (.fadr 11 (.t 1))⟩,
    ⟨(some 106), none, .f (.ld (.t 105))⟩,
    ⟨(some 107), none, .x (.call 37 [(.t 106)])⟩,
    ⟨(some 108), none, .x (.bslice 9 1 [(.str [])] 2 [(0, (.c (.str [100, 97, 116, 97]))), (1, (.t 107))])⟩,
    ⟨(some 109), none, .x (.app 9 1 16 (.t 104) (.t 108))⟩,
    ⟨(some 7), none, .f (.mv (.t 109))⟩])
  .skip))
 (.seq (.reg [
   ⟨(some 110), none, .f (.mv (.t 7))⟩,
   ⟨(some 111), none, .x (.call 38 [(.t 110), (.c (.str [32]))])⟩,
   ⟨(some 2), none, .f (.mv (.t 111))⟩,
   ⟨(some 3), none, .f (.mv (.c (.int .i64 0)))⟩])
 .ret))))))))))))
theorem ok9 : fnComp Tryd.prog 9 = some (112, c9, [(.mv (.t 2)), (.mv (.t 3))]) := by kernel_rfl

/-- loop.example/g00003/spec.ShowReply -/
def c12 : CC :=
 (.seq (.reg [
   ⟨(some 1), none, .x (.box 43 3 (.t 0))⟩,
   ⟨(some 2), none, .f (.mv (.c .nilslice))⟩,
   ⟨(some 3), none, .f (.mv (.c (.int .i64 0)))⟩])
 (.seq (.seq (.reg [
   ⟨(some 4), none, .f (.ldA 3 (.t 1))⟩,
   ⟨(some 5), none, .x (.call 41 [(.t 4)])⟩,
   ⟨(some 6), none, .f (.un .not (.t 5))⟩])
 (.cond (.t 6)
  (.seq (.reg [
    ⟨(some 2), none, .f (.mv (.c .nilslice))⟩,
    ⟨(some 3), none, .f (.mv (.c (.int .i64 1)))⟩])
  .ret)
  .skip))
 (.seq (.dreg [
   ⟨(some 7), none, .f (.fadr 0 (.t 1))⟩,
   ⟨(some 8), none, .f (.ld (.t 7))⟩,
   ⟨(some 9), none, .x (.call 29 [(.t 8)])⟩,
   ⟨(some 10), none, .f (.bin .add (.c (.str [114, 101, 112, 108, 121, 32])) (.t 9))⟩,
   ⟨(some 11), none, .f (.fadr 1 (.t 1))⟩,
   ⟨(some 12), none, .f (.ld (.t 11))⟩,
   ⟨(some 13), none, .f (.fadr 2 (.t 1))⟩,
   ⟨(some 14), none, .f (.ld (.t 13))⟩,
   ⟨(some 15), none, .x (.call 42 [(.t 10), (.t 12), (.t 14)])⟩,
   ⟨(some 2), none, .f (.mv (.t 15))⟩,
   ⟨(some 3), none, .f (.mv (.c (.int .i64 0)))⟩]
   [false, false, true, false, false, false, false, false, true, false, false] [[], [0], [1, 0], [2, 1, 0], [], [4], [], [6], [3, 2, 1, 0, 5, 4, 7, 6], [8, 3, 2, 1, 0, 5, 4, 7, 6], [9, 8, 3, 2, 1, 0, 5, 4, 7, 6]] [0, 1, 4, 5, 6, 7, 2, 3, 8, 9, 10])
 .ret)))
/-- loop.example/g00003/spec.l11OK -/
def c28 : CC :=
 (.seq (.reg [
   ⟨(some 1), none, .x (.box 31 12 (.t 0))⟩,
   ⟨(some 2), none, .f (.mv (.c (.bool false)))⟩])
 (.seq (.seq (.reg [
   ⟨(some 4), none, .f (.fadr 0 (.t 1))⟩,
   ⟨(some 5), none, .f (.ld (.t 4))⟩,
   ⟨(some 6), none, .x (.call 50 [(.t 5)])⟩,
   ⟨(some 7), none, .f (.un .not (.t 6))⟩,
   ⟨(some 8), none, .f (.mv (.t 7))⟩,
   ⟨(some 9), (some (8, false)), .f (.fadr 1 (.t 1))⟩,
   ⟨(some 10), (some (8, false)), .f (.ld (.t 9))⟩,
   ⟨(some 11), (some (8, false)), .x (.call 50 [(.t 10)])⟩,
   ⟨(some 12), (some (8, false)), .f (.un .not (.t 11))⟩,
   ⟨(some 13), none, .f (.pick (.t 8) (.c (.bool true)) (.t 12))⟩,
   ⟨(some 14), none, .f (.mv (.t 13))⟩,
   ⟨(some 15), (some (14, false)), .f (.fadr 2 (.t 1))⟩,
   ⟨(some 16), (some (14, false)), .f (.ld (.t 15))⟩,
   ⟨(some 17), (some (14, false)), .x (.call 51 [(.t 16)])⟩,
   ⟨(some 18), (some (14, false)), .f (.un .not (.t 17))⟩,
   ⟨(some 19), none, .f (.pick (.t 14) (.c (.bool true)) (.t 18))⟩,
   ⟨(some 20), none, .f (.mv (.t 19))⟩,
   ⟨(some 21), (some (20, false)), .f (.fadr 3 (.t 1))⟩,
   ⟨(some 22), (some (20, false)), .f (.ld (.t 21))⟩,
   ⟨(some 23), (some (20, false)), .x (.call 51 [(.t 22)])⟩,
   ⟨(some 24), (some (20, false)), .f (.un .not (.t 23))⟩,
   ⟨(some 25), none, .f (.pick (.t 20) (.c (.bool true)) (.t 24))⟩,
   ⟨(some 26), none, .f (.mv (.t 25))⟩,
   ⟨(some 27), (some (26, false)), .f (.fadr 4 (.t 1))⟩,
   ⟨(some 28), (some (26, false)), .f (.ld (.t 27))⟩,
   ⟨(some 29), (some (26, false)), .x (.call 52 [(.t 28), (.c (.int .i64 0)), (.c (.int .i64 63))])⟩,
   ⟨(some 30), (some (26, false)), .f (.un .not (.t 29))⟩,
   ⟨(some 31), none, .f (.pick (.t 26) (.c (.bool true)) (.t 30))⟩,
   ⟨(some 32), none, .f (.mv (.t 31))⟩,
   ⟨(some 33), (some (32, false)), .f (.fadr 5 (.t 1))⟩,
   ⟨(some 34), (some (32, false)), .f (.ld (.t 33))⟩,
   ⟨(some 35), (some (32, false)), .x (.call 52 [(.t 34), (.c (.int .i64 0)), (.c (.int .i64 65535))])⟩,
   ⟨(some 36), (some (32, false)), .f (.un .not (.t 35))⟩,
   ⟨(some 37), none, .f (.pick (.t 32) (.c (.bool true)) (.t 36))⟩,
   ⟨(some 38), none, .f (.mv (.t 37))⟩,
   ⟨(some 39), (some (38, false)), .f (.fadr 6 (.t 1))⟩,
   ⟨(some 40), (some (38, false)), .f (.ld (.t 39))⟩,
   ⟨(some 41), (some (38, false)), .x (.call 52 [(.t 40), (.c (.int .i64 0)), (.c (.int .i64 65535))])⟩,
   ⟨(some 42), (some (38, false)), .f (.un .not (.t 41))⟩,
   ⟨(some 43), none, .f (.pick (.t 38) (.c (.bool true)) (.t 42))⟩,
   ⟨(some 44), none, .f (.mv (.t 43))⟩,
   ⟨(some 45), (some (44, false)), .f (.fadr 8 (.t 1))⟩,
   ⟨(some 46), (some (44, false)), .f (.ld (.t 45))⟩,
   ⟨(some 47), (some (44, false)), .x (.call 52 [(.t 46), (.c (.int .i64 0)), (.c (.int .i64 14))])⟩,
   ⟨(some 48), (some (44, false)), .f (.un .not (.t 47))⟩,
   ⟨(some 49), none, .f (.pick (.t 44) (.c (.bool true)) (.t 48))⟩,
   ⟨(some 50), none, .f (.mv (.t 49))⟩,
   ⟨(some 51), (some (50, false)), .f (.fadr 7 (.t 1))⟩,
   ⟨(some 52), (some (50, false)), .f (.ld (.t 51))⟩,
   ⟨(some 53), (some (50, false)), .f (.un .not (.t 52))⟩,
   ⟨(some 54), (some (50, false)), .f (.mv (.t 53))⟩,
   ⟨(some 55), (some (54, true)), .f (.fadr 8 (.t 1))⟩,
   ⟨(some 56), (some (54, true)), .f (.ld (.t 55))⟩,
   ⟨(some 57), (some (54, true)), .f (.bin .neq (.t 56) (.c (.int .i64 0)))⟩,
   ⟨(some 58), (some (50, false)), .f (.pick (.t 54) (.t 57) (.c (.bool false)))⟩,
   ⟨(some 59), none, .f (.pick (.t 50) (.c (.bool true)) (.t 58))⟩,
   ⟨(some 60), none, .f (.mv (.t 59))⟩,
   ⟨(some 61), (some (60, false)), .f (.fadr 10 (.t 1))⟩,
   ⟨(some 62), (some (60, false)), .f (.ld (.t 61))⟩,
   ⟨(some 63), (some (60, false)), .f (.len (.t 62))⟩,
   ⟨(some 64), (some (60, false)), .f (.bin .gtr (.t 63) (.c (.int .i64 3)))⟩,
   ⟨(some 65), none, .f (.pick (.t 60) (.c (.bool true)) (.t 64))⟩])
 (.cond (.t 65)
  (.seq (.reg [
    ⟨(some 2), none, .f (.mv (.c (.bool false)))⟩])
  .ret)
  .skip))
 (.seq (.seq (.reg [
   ⟨(some 3), none, .f (.mv (.c (.int .i64 0)))⟩])
 (.block 0 (.loop (.seq (.seq (.reg [
     ⟨(some 66), none, .f (.mv (.t 3))⟩,
     ⟨(some 67), none, .f (.fadr 10 (.t 1))⟩,
     ⟨(some 68), none, .f (.ld (.t 67))⟩,
     ⟨(some 69), none, .f (.len (.t 68))⟩,
     ⟨(some 70), none, .f (.bin .lss (.t 66) (.t 69))⟩])
   (.cond (.t 70)
    .skip
    (.exit 0)))
   (.seq (.block 1 (.seq (.reg [
      ⟨(some 73), none, .f (.fadr 10 (.t 1))⟩,
      ⟨(some 74), none, .f (.ld (.t 73))⟩,
      ⟨(some 75), none, .f (.mv (.t 3))⟩,
      ⟨(some 76), none, .f (.iadr 2 (.t 74) (.t 75))⟩,
      ⟨(some 77), none, .f (.fadr 0 (.t 76))⟩,
      ⟨(some 78), none, .f (.ld (.t 77))⟩,
      ⟨(some 79), none, .x (.call 51 [(.t 78)])⟩,
      ⟨(some 80), none, .f (.un .not (.t 79))⟩,
      ⟨(some 81), none, .f (.mv (.t 80))⟩,
      ⟨(some 82), (some (81, false)), .f (.fadr 10 (.t 1))⟩,
      ⟨(some 83), (some (81, false)), .f (.ld (.t 82))⟩,
      ⟨(some 84), (some (81, false)), .f (.mv (.t 3))⟩,
      ⟨(some 85), (some (81, false)), .f (.iadr 2 (.t 83) (.t 84))⟩,
      ⟨(some 86), (some (81, false)), .f (.fadr 1 (.t 85))⟩,
      ⟨(some 87), (some (81, false)), .f (.ld (.t 86))⟩,
      ⟨(some 88), (some (81, false)), .x (.call 51 [(.t 87)])⟩,
      ⟨(some 89), (some (81, false)), .f (.un .not (.t 88))⟩,
      ⟨(some 90), none, .f (.pick (.t 81) (.c (.bool true)) (.t 89))⟩])
    (.cond (.t 90)
     (.seq (.reg [
       ⟨(some 2), none, .f (.mv (.c (.bool false)))⟩])
     .ret)
     .skip)))
   (.reg [
     ⟨(some 71), none, .f (.mv (.t 3))⟩,
     ⟨(some 72), none, .f (.bin .add (.t 71) (.c (.int .i64 1)))⟩,
     ⟨(some 3), none, .f (.mv (.t 72))⟩]))))))
 (.seq (.reg [
   ⟨(some 2), none, .f (.mv (.c (.bool true)))⟩])
 .ret))))
theorem ok28 : fnComp Tryd.prog 28 = some (91, c28, [(.mv (.t 2))]) := by kernel_rfl

/-- loop.example/g00003/spec.l02Dec -/
def c29 : CC :=
 (.seq (.reg [
   ⟨(some 2), none, .f (.mv (.c (.str [])))⟩])
 (.seq (.seq (.reg [
   ⟨(some 3), none, .f (.mv (.t 0))⟩,
   ⟨(some 4), none, .f (.bin .lss (.t 3) (.c (.int .i64 10)))⟩])
 (.cond (.t 4)
  (.seq (.reg [
    ⟨(some 5), none, .f (.mv (.t 0))⟩,
    ⟨(some 6), none, .f (.bin .add (.c (.int .i64 48)) (.t 5))⟩,
    ⟨(some 7), none, .f (.cvI .u8 (.t 6))⟩,
    ⟨(some 8), none, .x (.bslice 5 1 [(.int .u8 0)] 1 [(0, (.t 7))])⟩,
    ⟨(some 9), none, .f (.b2s (.t 8))⟩,
    ⟨(some 2), none, .f (.mv (.t 9))⟩])
  .ret)
  .skip))
 (.seq (.treg [
   ⟨(some 10), none, .f (.mv (.t 0))⟩,
   ⟨(some 11), none, .f (.bin .quo (.t 10) (.c (.int .i64 10)))⟩,
   ⟨(some 12), none, .x (.call 29 [(.t 11)])⟩,
   ⟨(some 13), none, .f (.mv (.t 0))⟩,
   ⟨(some 14), none, .f (.bin .rem (.t 13) (.c (.int .i64 10)))⟩,
   ⟨(some 15), none, .f (.bin .add (.c (.int .i64 48)) (.t 14))⟩,
   ⟨(some 16), none, .f (.cvI .u8 (.t 15))⟩,
   ⟨(some 17), none, .x (.bslice 5 1 [(.int .u8 0)] 1 [(0, (.t 16))])⟩,
   ⟨(some 18), none, .f (.b2s (.t 17))⟩,
   ⟨(some 19), none, .f (.bin .add (.t 12) (.t 18))⟩,
   ⟨(some 2), none, .f (.mv (.t 19))⟩]
   [[], [0], [1, 0], [], [3], [4, 3], [5, 4, 3], [6, 5, 4, 3], [7, 6, 5, 4, 3], [2, 1, 0, 8, 7, 6, 5, 4, 3], [9, 2, 1, 0, 8, 7, 6, 5, 4, 3]] (.fl 0 (.fl 1 (.fl 3 (.fl 4 (.fl 5 (.fl 6 (.br 2 (.br 7 (.fl 8 (.fl 9 (.fl 10 .fin))) .stop) (.br 7 (.fl 8 (.br 2 (.fl 9 (.fl 10 .fin)) .stop)) .stop)))))))))
 .ret)))
theorem ok29 : fnComp Tryd.prog 29 = some (20, c29, [(.mv (.t 2))]) := by kernel_rfl

/-- loop.example/g00003/spec.l11Has -/
def c30 : CC :=
 (.seq (.reg [
   ⟨(some 2), none, .x (.box 31 12 (.t 0))⟩,
   ⟨(some 4), none, .f (.mv (.c (.bool false)))⟩])
 (.seq (.reg [
   ⟨(some 5), none, .f (.fadr 4 (.t 2))⟩,
   ⟨(some 6), none, .f (.ld (.t 5))⟩,
   ⟨(some 7), none, .f (.mv (.t 1))⟩,
   ⟨(some 8), none, .f (.bin .and (.t 6) (.t 7))⟩,
   ⟨(some 9), none, .f (.bin .neq (.t 8) (.c (.int .i64 0)))⟩,
   ⟨(some 4), none, .f (.mv (.t 9))⟩])
 .ret))
theorem ok30 : fnComp Tryd.prog 30 = some (10, c30, [(.mv (.t 4))]) := by kernel_rfl

/-- loop.example/g00003/spec.l11Bit -/
def c31 : CC :=
 (.seq (.reg [
   ⟨(some 2), none, .f (.mv (.c (.int .i64 0)))⟩])
 (.seq (.reg [
   ⟨(some 3), none, .x (.bslice 2 1 [(.int .i64 0)] 6 [(0, (.c (.int .i64 2))), (1, (.c (.int .i64 1))), (2, (.c (.int .i64 4))), (3, (.c (.int .i64 8))), (4, (.c (.int .i64 16))), (5, (.c (.int .i64 32)))])⟩,
   ⟨(some 4), none, .f (.mv (.t 0))⟩,
   ⟨(some 5), none, .f (.iadr 1 (.t 3) (.t 4))⟩,
   ⟨(some 6), none, .f (.ld (.t 5))⟩,
   ⟨(some 2), none, .f (.mv (.t 6))⟩])
 .ret))
theorem ok31 : fnComp Tryd.prog 31 = some (7, c31, [(.mv (.t 2))]) := by kernel_rfl

/-- loop.example/g00003/spec.l11HexText -/
def c32 : CC :=
 (.seq (.reg [
   ⟨(some 2), none, .f (.mv (.c (.str [])))⟩])
 (.seq (.reg [
   ⟨(some 3), none, .f (.mv (.c (.str [48, 49, 50, 51, 52, 53, 54, 55, 56, 57, 97, 98, 99, 100, 101, 102])))⟩])
 (.seq (.reg [
   ⟨(some 6), none, .x (.bslice 5 1 [(.int .u8 0)] 0 [])⟩,
   ⟨(some 4), none, .f (.mv (.t 6))⟩])
 (.seq (.seq (.reg [
   ⟨(some 5), none, .f (.mv (.c (.int .i64 0)))⟩])
 (.block 0 (.loop (.seq (.seq (.reg [
     ⟨(some 7), none, .f (.mv (.t 5))⟩,
     ⟨(some 8), none, .f (.mv (.t 0))⟩,
     ⟨(some 9), none, .f (.len (.t 8))⟩,
     ⟨(some 10), none, .f (.bin .lss (.t 7) (.t 9))⟩])
   (.cond (.t 10)
    .skip
    (.exit 0)))
   (.seq (.block 1 (.seq (.reg [
      ⟨(some 13), none, .f (.mv (.t 4))⟩,
      ⟨(some 14), none, .f (.mv (.t 3))⟩,
      ⟨(some 15), none, .f (.mv (.t 0))⟩,
      ⟨(some 16), none, .f (.mv (.t 5))⟩,
      ⟨(some 17), none, .f (.iadr 1 (.t 15) (.t 16))⟩,
      ⟨(some 18), none, .f (.ld (.t 17))⟩,
      ⟨(some 19), none, .f (.bin .shr (.t 18) (.c (.int .u64 4)))⟩,
      ⟨(some 20), none, .f (.idxS (.t 14) (.t 19))⟩,
      ⟨(some 21), none, .x (.bslice 5 1 [(.int .u8 0)] 1 [(0, (.t 20))])⟩,
      ⟨(some 22), none, .x (.app 5 1 1 (.t 13) (.t 21))⟩,
      ⟨(some 4), none, .f (.mv (.t 22))⟩])
    (.reg [
      ⟨(some 23), none, .f (.mv (.t 4))⟩,
      ⟨(some 24), none, .f (.mv (.t 3))⟩,
      ⟨(some 25), none, .f (.mv (.t 0))⟩,
      ⟨(some 26), none, .f (.mv (.t 5))⟩,
      ⟨(some 27), none, .f (.iadr 1 (.t 25) (.t 26))⟩,
      ⟨(some 28), none, .f (.ld (.t 27))⟩,
      ⟨(some 29), none, .f (.bin .and (.t 28) (.c (.int .u8 15)))⟩,
      ⟨(some 30), none, .f (.idxS (.t 24) (.t 29))⟩,
      ⟨(some 31), none, .x (.bslice 5 1 [(.int .u8 0)] 1 [(0, (.t 30))])⟩,
      ⟨(some 32), none, .x (.app 5 1 1 (.t 23) (.t 31))⟩,
      ⟨(some 4), none, .f (.mv (.t 32))⟩])))
   (.reg [
     ⟨(some 11), none, .f (.mv (.t 5))⟩,
     ⟨(some 12), none, .f (.bin .add (.t 11) (.c (.int .i64 1)))⟩,
     ⟨(some 5), none, .f (.mv (.t 12))⟩]))))))
 (.seq (.reg [
   ⟨(some 33), none, .f (.mv (.t 4))⟩,
   ⟨(some 34), none, .f (.b2s (.t 33))⟩,
   ⟨(some 2), none, .f (.mv (.t 34))⟩])
 .ret)))))
theorem ok32 : fnComp Tryd.prog 32 = some (35, c32, [(.mv (.t 2))]) := by kernel_rfl

/-- loop.example/g00003/impl.okSegment -/
def c35 : CC :=
 (.seq (.reg [
   ⟨(some 1), none, .x (.box 31 12 (.t 0))⟩,
   ⟨(some 2), none, .f (.mv (.c (.bool false)))⟩])
 (.seq (.seq (.reg [
   ⟨(some 5), none, .f (.fadr 0 (.t 1))⟩,
   ⟨(some 6), none, .f (.ld (.t 5))⟩,
   ⟨(some 7), none, .x (.call 54 [(.t 6)])⟩,
   ⟨(some 8), none, .f (.un .not (.t 7))⟩,
   ⟨(some 9), none, .f (.mv (.t 8))⟩,
   ⟨(some 10), (some (9, false)), .f (.fadr 1 (.t 1))⟩,
   ⟨(some 11), (some (9, false)), .f (.ld (.t 10))⟩,
   ⟨(some 12), (some (9, false)), .x (.call 54 [(.t 11)])⟩,
   ⟨(some 13), (some (9, false)), .f (.un .not (.t 12))⟩,
   ⟨(some 14), none, .f (.pick (.t 9) (.c (.bool true)) (.t 13))⟩,
   ⟨(some 15), none, .f (.mv (.t 14))⟩,
   ⟨(some 16), (some (15, false)), .f (.fadr 2 (.t 1))⟩,
   ⟨(some 17), (some (15, false)), .f (.ld (.t 16))⟩,
   ⟨(some 18), (some (15, false)), .x (.call 55 [(.t 17)])⟩,
   ⟨(some 19), (some (15, false)), .f (.un .not (.t 18))⟩,
   ⟨(some 20), none, .f (.pick (.t 15) (.c (.bool true)) (.t 19))⟩,
   ⟨(some 21), none, .f (.mv (.t 20))⟩,
   ⟨(some 22), (some (21, false)), .f (.fadr 3 (.t 1))⟩,
   ⟨(some 23), (some (21, false)), .f (.ld (.t 22))⟩,
   ⟨(some 24), (some (21, false)), .x (.call 55 [(.t 23)])⟩,
   ⟨(some 25), (some (21, false)), .f (.un .not (.t 24))⟩,
   ⟨(some 26), none, .f (.pick (.t 21) (.c (.bool true)) (.t 25))⟩,
   ⟨(some 27), none, .f (.mv (.t 26))⟩,
   ⟨(some 28), (some (27, false)), .f (.fadr 4 (.t 1))⟩,
   ⟨(some 29), (some (27, false)), .f (.ld (.t 28))⟩,
   ⟨(some 30), (some (27, false)), .f (.bin .lss (.t 29) (.c (.int .i64 0)))⟩,
   ⟨(some 31), none, .f (.pick (.t 27) (.c (.bool true)) (.t 30))⟩,
   ⟨(some 32), none, .f (.mv (.t 31))⟩,
   ⟨(some 33), (some (32, false)), .f (.fadr 4 (.t 1))⟩,
   ⟨(some 34), (some (32, false)), .f (.ld (.t 33))⟩,
   ⟨(some 35), (some (32, false)), .f (.bin .gtr (.t 34) (.c (.int .i64 63)))⟩,
   ⟨(some 36), none, .f (.pick (.t 32) (.c (.bool true)) (.t 35))⟩,
   ⟨(some 37), none, .f (.mv (.t 36))⟩,
   ⟨(some 38), (some (37, false)), .f (.fadr 5 (.t 1))⟩,
   ⟨(some 39), (some (37, false)), .f (.ld (.t 38))⟩,
   ⟨(some 40), (some (37, false)), .x (.call 54 [(.t 39)])⟩,
   ⟨(some 41), (some (37, false)), .f (.un .not (.t 40))⟩,
   ⟨(some 42), none, .f (.pick (.t 37) (.c (.bool true)) (.t 41))⟩,
   ⟨(some 43), none, .f (.mv (.t 42))⟩,
   ⟨(some 44), (some (43, false)), .f (.fadr 6 (.t 1))⟩,
   ⟨(some 45), (some (43, false)), .f (.ld (.t 44))⟩,
   ⟨(some 46), (some (43, false)), .x (.call 54 [(.t 45)])⟩,
   ⟨(some 47), (some (43, false)), .f (.un .not (.t 46))⟩,
   ⟨(some 48), none, .f (.pick (.t 43) (.c (.bool true)) (.t 47))⟩,
   ⟨(some 49), none, .f (.mv (.t 48))⟩,
   ⟨(some 50), (some (49, false)), .f (.fadr 8 (.t 1))⟩,
   ⟨(some 51), (some (49, false)), .f (.ld (.t 50))⟩,
   ⟨(some 52), (some (49, false)), .f (.bin .lss (.t 51) (.c (.int .i64 0)))⟩,
   ⟨(some 53), none, .f (.pick (.t 49) (.c (.bool true)) (.t 52))⟩,
   ⟨(some 54), none, .f (.mv (.t 53))⟩,
   ⟨(some 55), (some (54, false)), .f (.fadr 8 (.t 1))⟩,
   ⟨(some 56), (some (54, false)), .f (.ld (.t 55))⟩,
   ⟨(some 57), (some (54, false)), .f (.bin .gtr (.t 56) (.c (.int .i64 14)))⟩,
   ⟨(some 58), none, .f (.pick (.t 54) (.c (.bool true)) (.t 57))⟩,
   ⟨(some 59), none, .f (.mv (.t 58))⟩,
   ⟨(some 60), (some (59, false)), .f (.fadr 7 (.t 1))⟩,
   ⟨(some 61), (some (59, false)), .f (.ld (.t 60))⟩,
   ⟨(some 62), (some (59, false)), .f (.un .not (.t 61))⟩,
   ⟨(some 63), (some (59, false)), .f (.mv (.t 62))⟩,
   ⟨(some 64), (some (63, true)), .f (.fadr 8 (.t 1))⟩,
   ⟨(some 65), (some (63, true)), .f (.ld (.t 64))⟩,
   ⟨(some 66), (some (63, true)), .f (.bin .neq (.t 65) (.c (.int .i64 0)))⟩,
   ⟨(some 67), (some (59, false)), .f (.pick (.t 63) (.t 66) (.c (.bool false)))⟩,
   ⟨(some 68), none, .f (.pick (.t 59) (.c (.bool true)) (.t 67))⟩,
   ⟨(some 69), none, .f (.mv (.t 68))⟩,
   ⟨(some 70), (some (69, false)), .f (.fadr 10 (.t 1))⟩,
   ⟨(some 71), (some (69, false)), .f (.ld (.t 70))⟩,
   ⟨(some 72), (some (69, false)), .f (.len (.t 71))⟩,
   ⟨(some 73), (some (69, false)), .f (.bin .gtr (.t 72) (.c (.int .i64 3)))⟩,
   ⟨(some 74), none, .f (.pick (.t 69) (.c (.bool true)) (.t 73))⟩])
 (.cond (.t 74)
  (.seq (.reg [
    ⟨(some 2), none, .f (.mv (.c (.bool false)))⟩])
  .ret)
  .skip))
 (.seq (.seq (.reg [
   ⟨(some 75), none, .f (.fadr 10 (.t 1))⟩,
   ⟨(some 76), none, .f (.ld (.t 75))⟩,
   ⟨(some 77), none, .f (.len (.t 76))⟩,
   ⟨(some 78), none, .f (.mv (.c (.int .i64 0)))⟩])
 (.block 0 (.loop (.seq (.reg [
     ⟨(some 79), none, .f (.bin .lss (.t 78) (.t 77))⟩])
   (.seq (.cond (.t 79)
    .skip
    (.exit 0))
   (.seq (.block 1 (.seq (.reg [
      ⟨(some 80), none, .f (.iadr 2 (.t 76) (.t 78))⟩,
      ⟨(some 81), none, .f (.ldA 2 (.t 80))⟩,
      ⟨(some 4), none, .x (.zero 66 2 [(.int .i64 0), (.int .i64 0)])⟩,
      ⟨none, none, .x (.st 2 (.t 4) (.t 81))⟩])
    (.seq (.reg [
      ⟨(some 82), none, .f (.fadr 0 (.t 4))⟩,
      ⟨(some 83), none, .f (.ld (.t 82))⟩,
      ⟨(some 84), none, .x (.call 55 [(.t 83)])⟩,
      ⟨(some 85), none, .f (.un .not (.t 84))⟩,
      ⟨(some 86), none, .f (.mv (.t 85))⟩,
      ⟨(some 87), (some (86, false)), .f (.fadr 1 (.t 4))⟩,
      ⟨(some 88), (some (86, false)), .f (.ld (.t 87))⟩,
      ⟨(some 89), (some (86, false)), .x (.call 55 [(.t 88)])⟩,
      ⟨(some 90), (some (86, false)), .f (.un .not (.t 89))⟩,
      ⟨(some 91), none, .f (.pick (.t 86) (.c (.bool true)) (.t 90))⟩])
    (.cond (.t 91)
     (.seq (.reg [
       ⟨(some 2), none, .f (.mv (.c (.bool false)))⟩])
     .ret)
     .skip))))
   (.reg [
     ⟨(some 92), none, .f (.bin .add (.t 78) (.c (.int .i64 1)))⟩,
     ⟨(some 78), none, .f (.mv (.t 92))⟩])))))))
 (.seq (.reg [
   ⟨(some 2), none, .f (.mv (.c (.bool true)))⟩])
 .ret))))
theorem ok35 : fnComp Tryd.prog 35 = some (93, c35, [(.mv (.t 2))]) := by kernel_rfl

/-- loop.example/g00003/impl.num -/
def c36 : CC :=
 (.seq (.reg [
   ⟨(some 2), none, .f (.mv (.c (.str [])))⟩])
 (.seq (.reg [
   ⟨(some 3), none, .f (.mv (.t 0))⟩,
   ⟨(some 4), none, .x (.call 56 [(.t 3), (.c (.int .i64 10))])⟩,
   ⟨(some 2), none, .f (.mv (.t 4))⟩])
 .ret))
theorem ok36 : fnComp Tryd.prog 36 = some (5, c36, [(.mv (.t 2))]) := by kernel_rfl

/-- loop.example/g00003/spec.l10PortOK -/
def c50 : CC :=
 (.seq (.reg [
   ⟨(some 2), none, .f (.mv (.c (.bool false)))⟩])
 (.seq (.reg [
   ⟨(some 3), none, .f (.mv (.t 0))⟩,
   ⟨(some 4), none, .x (.call 52 [(.t 3), (.c (.int .i64 0)), (.c (.int .i64 65535))])⟩,
   ⟨(some 2), none, .f (.mv (.t 4))⟩])
 .ret))
theorem ok50 : fnComp Tryd.prog 50 = some (5, c50, [(.mv (.t 2))]) := by kernel_rfl

/-- loop.example/g00003/spec.l11Seq -/
def c51 : CC :=
 (.seq (.reg [
   ⟨(some 2), none, .f (.mv (.c (.bool false)))⟩])
 (.seq (.reg [
   ⟨(some 3), none, .f (.mv (.t 0))⟩,
   ⟨(some 4), none, .x (.call 73 [(.t 3)])⟩,
   ⟨(some 2), none, .f (.mv (.t 4))⟩])
 .ret))
theorem ok51 : fnComp Tryd.prog 51 = some (5, c51, [(.mv (.t 2))]) := by kernel_rfl

/-- loop.example/g00003/spec.l01In -/
def c52 : CC :=
 (.seq (.reg [
   ⟨(some 6), none, .f (.mv (.c (.bool false)))⟩])
 (.seq (.reg [
   ⟨(some 7), none, .f (.mv (.t 0))⟩,
   ⟨(some 8), none, .f (.mv (.t 1))⟩,
   ⟨(some 9), none, .f (.bin .geq (.t 7) (.t 8))⟩,
   ⟨(some 10), none, .f (.mv (.t 9))⟩,
   ⟨(some 11), (some (10, true)), .f (.mv (.t 0))⟩,
   ⟨(some 12), (some (10, true)), .f (.mv (.t 2))⟩,
   ⟨(some 13), (some (10, true)), .f (.bin .leq (.t 11) (.t 12))⟩,
   ⟨(some 14), none, .f (.pick (.t 10) (.t 13) (.c (.bool false)))⟩,
   ⟨(some 6), none, .f (.mv (.t 14))⟩])
 .ret))
theorem ok52 : fnComp Tryd.prog 52 = some (15, c52, [(.mv (.t 6))]) := by kernel_rfl

/-- loop.example/g00003/impl.isPort -/
def c54 : CC :=
 (.seq (.reg [
   ⟨(some 2), none, .f (.mv (.c (.bool false)))⟩])
 (.seq (.reg [
   ⟨(some 3), none, .f (.mv (.t 0))⟩,
   ⟨(some 4), none, .f (.bin .geq (.t 3) (.c (.int .i64 0)))⟩,
   ⟨(some 5), none, .f (.mv (.t 4))⟩,
   ⟨(some 6), (some (5, true)), .f (.mv (.t 0))⟩,
   ⟨(some 7), (some (5, true)), .f (.bin .leq (.t 6) (.c (.int .i64 65535)))⟩,
   ⟨(some 8), none, .f (.pick (.t 5) (.t 7) (.c (.bool false)))⟩,
   ⟨(some 2), none, .f (.mv (.t 8))⟩])
 .ret))
theorem ok54 : fnComp Tryd.prog 54 = some (9, c54, [(.mv (.t 2))]) := by kernel_rfl

/-- loop.example/g00003/impl.isSeq -/
def c55 : CC :=
 (.seq (.reg [
   ⟨(some 2), none, .f (.mv (.c (.bool false)))⟩])
 (.seq (.reg [
   ⟨(some 3), none, .f (.mv (.t 0))⟩,
   ⟨(some 4), none, .f (.bin .geq (.t 3) (.c (.int .i64 0)))⟩,
   ⟨(some 5), none, .f (.mv (.t 4))⟩,
   ⟨(some 6), (some (5, true)), .f (.mv (.t 0))⟩,
   ⟨(some 7), (some (5, true)), .f (.bin .leq (.t 6) (.c (.int .i64 4294967295)))⟩,
   ⟨(some 8), none, .f (.pick (.t 5) (.t 7) (.c (.bool false)))⟩,
   ⟨(some 2), none, .f (.mv (.t 8))⟩])
 .ret))
theorem ok55 : fnComp Tryd.prog 55 = some (9, c55, [(.mv (.t 2))]) := by kernel_rfl

/-- loop.example/g00003/spec.l02AddrOK -/
def c73 : CC :=
 (.seq (.reg [
   ⟨(some 2), none, .f (.mv (.c (.bool false)))⟩])
 (.seq (.reg [
   ⟨(some 3), none, .f (.mv (.t 0))⟩,
   ⟨(some 4), none, .x (.call 52 [(.t 3), (.c (.int .i64 0)), (.c (.int .i64 4294967295))])⟩,
   ⟨(some 2), none, .f (.mv (.t 4))⟩])
 .ret))
theorem ok73 : fnComp Tryd.prog 73 = some (5, c73, [(.mv (.t 2))]) := by kernel_rfl

end Go.Proofs.YtaolhgjnlmaooaaDoor

namespace Go.Proofs
open Go.Shelf
def Tryd.lays156_ren : Go.Shelf.Ren := ⟨fun | 156 => 38 | 165 => 59 | 166 => 60 | 169 => 61 | 240 => 75 | 241 => 76 | 276 => 88 | 277 => 89 | n => n, fun | 31 => 71 | 9 => 9 | 3 => 3 | 4 => 4 | 0 => 0 | 20 => 20 | 72 => 92 | 76 => 96 | 70 => 90 | 37 => 23 | 75 => 95 | 127 => 110 | 164 => 121 | 5 => 5 | 80 => 98 | n => n, fun | n => n⟩
theorem Tryd.lays156 : Go.Proofs.Lays.n156 Tryd.prog Tryd.lays156_ren := {
  mixed := by kernel_rfl
  f156 := Tryd.func38.trans (congrArg some (by kernel_rfl))
  f165 := Tryd.func59.trans (congrArg some (by kernel_rfl))
  f166 := Tryd.func60.trans (congrArg some (by kernel_rfl))
  f169 := Tryd.func61.trans (congrArg some (by kernel_rfl))
  f240 := Tryd.func75.trans (congrArg some (by kernel_rfl))
  f241 := Tryd.func76.trans (congrArg some (by kernel_rfl))
  f276 := Tryd.func88.trans (congrArg some (by kernel_rfl))
  f277 := Tryd.func89.trans (congrArg some (by kernel_rfl))
  t0 := Tryd.underlying0
  a0 := Tryd.isAgg0
  z0 := Tryd.sizeOf0
  v0 := Tryd.zeroValue0
  t3 := Tryd.underlying3
  a3 := Tryd.isAgg3
  z3 := Tryd.sizeOf3
  v3 := Tryd.zeroValue3
  t4 := Tryd.underlying4
  a4 := Tryd.isAgg4
  z4 := Tryd.sizeOf4
  v4 := Tryd.zeroValue4
  t9 := Tryd.underlying9
  a9 := Tryd.isAgg9
  z9 := Tryd.sizeOf9
  v9 := Tryd.zeroValue9
  t20 := Tryd.underlying20
  a20 := Tryd.isAgg20
  z20 := Tryd.sizeOf20
  v20 := Tryd.zeroValue20
  t31 := Tryd.underlying71
  a31 := Tryd.isAgg71
  z31 := Tryd.sizeOf71
  v31 := Tryd.zeroValue71
  t37 := Tryd.underlying23
  a37 := Tryd.isAgg23
  z37 := Tryd.sizeOf23
  v37 := Tryd.zeroValue23
  t70 := Tryd.underlying90
  a70 := Tryd.isAgg90
  z70 := Tryd.sizeOf90
  v70 := Tryd.zeroValue90
  t72 := Tryd.underlying92
  a72 := Tryd.isAgg92
  z72 := Tryd.sizeOf92
  v72 := Tryd.zeroValue92
  t75 := Tryd.underlying95
  a75 := Tryd.isAgg95
  z75 := Tryd.sizeOf95
  v75 := Tryd.zeroValue95
  t76 := Tryd.underlying96
  a76 := Tryd.isAgg96
  z76 := Tryd.sizeOf96
  v76 := Tryd.zeroValue96
  t127 := Tryd.underlying110
  a127 := Tryd.isAgg110
  z127 := Tryd.sizeOf110
  v127 := Tryd.zeroValue110
  t164 := Tryd.underlying121
  a164 := Tryd.isAgg121
  z164 := Tryd.sizeOf121
  v164 := Tryd.zeroValue121 }
theorem Tryd.Builder_Extra_156 : Builder.Extra Tryd.prog Tryd.lays156_ren := {
  sizeBuilder := by kernel_rfl
  liesBuilder := by kernel_rfl
  t5 := Tryd.underlying5
  a5 := Tryd.isAgg5
  z5 := Tryd.sizeOf5
  v5 := Tryd.zeroValue5
  infoByte := by kernel_rfl
  cellsByte := by kernel_rfl
  sizeByte := by kernel_rfl
  neB5 := by decide }
open Go.RowKit in
theorem Tryd.strings_Join (bk o c : Nat) (xs : List ByteArray) (sep : ByteArray) (w : World) (hcells : ∀ (j : Nat) x, xs[j]? = some x → w.cell? ⟨bk, o + j, none⟩ = some (.string x)) (hbk : bk < w.heap.size) (hN : xs.length ≤ 140737488355328) (hcap : xs.length ≤ c) (hlen : (Lib.join (xs.map (·.data.toList)) sep.data.toList).length ≤ 140737488355328) :
    Calls Tryd.prog 38 #[.slice (some ⟨bk, o, none⟩) xs.length c, .string sep] w fun e w' => e = .returned (.string ⟨(Lib.join (xs.map (·.data.toList)) sep.data.toList).toArray⟩) ∧ Below w.heap.size w w' := Any.strings_Join Tryd.lays156 Tryd.Builder_Extra_156 bk o c xs sep w hcells hbk hN hcap hlen
def Tryd.laysM173_ren : Go.Shelf.Ren := ⟨fun | 173 => 56 | 246 => 74 | 283 => 84 | 284 => 85 | 285 => 86 | 286 => 87 | 129 => 94 | 317 => 93 | 318 => 95 | 319 => 96 | 320 => 97 | 337 => 106 | 338 => 107 | n => n, fun | 2 => 2 | 3 => 3 | 9 => 9 | 4 => 4 | 171 => 115 | 0 => 0 | 53 => 116 | 37 => 23 | 5 => 5 | 173 => 119 | 212 => 127 | 51 => 128 | 20 => 20 | 213 => 129 | 46 => 84 | 232 => 143 | 233 => 144 | n => n, fun | 17 => 0 | 18 => 2 | 19 => 3 | n => n⟩
theorem Tryd.laysM173 : Go.Proofs.LaysM.n173 Tryd.prog Tryd.laysM173_ren := {
  mixed := by kernel_rfl
  f129 := Tryd.func94.trans (congrArg some (by kernel_rfl))
  f173 := Tryd.func56.trans (congrArg some (by kernel_rfl))
  f246 := Tryd.func74.trans (congrArg some (by kernel_rfl))
  f283 := Tryd.func84.trans (congrArg some (by kernel_rfl))
  f284 := Tryd.func85.trans (congrArg some (by kernel_rfl))
  f285 := Tryd.func86.trans (congrArg some (by kernel_rfl))
  f286 := Tryd.func87.trans (congrArg some (by kernel_rfl))
  f317 := Tryd.func93.trans (congrArg some (by kernel_rfl))
  f318 := Tryd.func95.trans (congrArg some (by kernel_rfl))
  f319 := Tryd.func96.trans (congrArg some (by kernel_rfl))
  f320 := Tryd.func97.trans (congrArg some (by kernel_rfl))
  f337 := Tryd.func106.trans (congrArg some (by kernel_rfl))
  f338 := Tryd.func107.trans (congrArg some (by kernel_rfl))
  t0 := Tryd.underlying0
  a0 := Tryd.isAgg0
  z0 := Tryd.sizeOf0
  v0 := Tryd.zeroValue0
  t2 := Tryd.underlying2
  a2 := Tryd.isAgg2
  z2 := Tryd.sizeOf2
  v2 := Tryd.zeroValue2
  t3 := Tryd.underlying3
  a3 := Tryd.isAgg3
  z3 := Tryd.sizeOf3
  v3 := Tryd.zeroValue3
  t4 := Tryd.underlying4
  a4 := Tryd.isAgg4
  z4 := Tryd.sizeOf4
  v4 := Tryd.zeroValue4
  t5 := Tryd.underlying5
  a5 := Tryd.isAgg5
  z5 := Tryd.sizeOf5
  v5 := Tryd.zeroValue5
  t9 := Tryd.underlying9
  a9 := Tryd.isAgg9
  z9 := Tryd.sizeOf9
  v9 := Tryd.zeroValue9
  t20 := Tryd.underlying20
  a20 := Tryd.isAgg20
  z20 := Tryd.sizeOf20
  v20 := Tryd.zeroValue20
  t37 := Tryd.underlying23
  a37 := Tryd.isAgg23
  z37 := Tryd.sizeOf23
  v37 := Tryd.zeroValue23
  t46 := Tryd.underlying84
  a46 := Tryd.isAgg84
  z46 := Tryd.sizeOf84
  v46 := Tryd.zeroValue84
  t51 := Tryd.underlying128
  a51 := Tryd.isAgg128
  z51 := Tryd.sizeOf128
  v51 := Tryd.zeroValue128
  t53 := Tryd.underlying116
  a53 := Tryd.isAgg116
  z53 := Tryd.sizeOf116
  v53 := Tryd.zeroValue116
  t171 := Tryd.underlying115
  a171 := Tryd.isAgg115
  z171 := Tryd.sizeOf115
  v171 := Tryd.zeroValue115
  t173 := Tryd.underlying119
  a173 := Tryd.isAgg119
  z173 := Tryd.sizeOf119
  v173 := Tryd.zeroValue119
  t212 := Tryd.underlying127
  a212 := Tryd.isAgg127
  z212 := Tryd.sizeOf127
  v212 := Tryd.zeroValue127
  t213 := Tryd.underlying129
  a213 := Tryd.isAgg129
  z213 := Tryd.sizeOf129
  t232 := Tryd.underlying143
  a232 := Tryd.isAgg143
  z232 := Tryd.sizeOf143
  v232 := Tryd.zeroValue143
  t233 := Tryd.underlying144
  a233 := Tryd.isAgg144
  z233 := Tryd.sizeOf144
  v233 := Tryd.zeroValue144
  g17 := by kernel_rfl
  g18 := by kernel_rfl
  g19 := by kernel_rfl
  i0 := by kernel_rfl
  i2 := by kernel_rfl
  i3 := by kernel_rfl
  i4 := by kernel_rfl
  i5 := by kernel_rfl
  i9 := by kernel_rfl
  i20 := by kernel_rfl
  i37 := by kernel_rfl
  i46 := by kernel_rfl
  i51 := by kernel_rfl
  i53 := by kernel_rfl
  i171 := by kernel_rfl
  i173 := by kernel_rfl
  i212 := by kernel_rfl
  i232 := by kernel_rfl
  i233 := by kernel_rfl
  m17 := by kernel_rfl
  m18 := by kernel_rfl
  m19 := by kernel_rfl }
open Go.RowKit Go.Sort Go.Lib in
theorem Tryd.strconv_FormatInt_10 (n : Int) (h0 : -9223372036854775808 ≤ n) (h1 : n ≤ 9223372036854775807) (w : World) (htab : Lib.TabIs Tryd.prog w "internal/strconv.uint64pow10" .u64 Lib.pow10Tab) :
    Calls Tryd.prog 56 #[.int .i64 n, .int .i64 10] w fun e w' => e = .returned (.string ⟨(Lib.itoa n).toArray⟩) ∧ ∃ k os, w' = grow (w.drewN k) os := Any.strconv_FormatInt_10 Tryd.laysM173 n h0 h1 w htab
def Tryd.laysPah39_ren : Go.Shelf.Ren := ⟨fun | 39 => 37 | 41 => 57 | 40 => 58 | n => n, fun | 30 => 23 | 9 => 9 | 3 => 3 | 0 => 0 | 5 => 5 | 46 => 84 | n => n, fun | n => n⟩
theorem Tryd.laysPah39 : Go.Proofs.Lays.ph39 Tryd.prog Tryd.laysPah39_ren := {
  mixed := by kernel_rfl
  f39 := Tryd.func37.trans (congrArg some (by kernel_rfl))
  f40 := Tryd.func58.trans (congrArg some (by kernel_rfl))
  f41 := Tryd.func57.trans (congrArg some (by kernel_rfl))
  t0 := Tryd.underlying0
  a0 := Tryd.isAgg0
  z0 := Tryd.sizeOf0
  v0 := Tryd.zeroValue0
  t3 := Tryd.underlying3
  a3 := Tryd.isAgg3
  z3 := Tryd.sizeOf3
  v3 := Tryd.zeroValue3
  t5 := Tryd.underlying5
  a5 := Tryd.isAgg5
  z5 := Tryd.sizeOf5
  v5 := Tryd.zeroValue5
  t9 := Tryd.underlying9
  a9 := Tryd.isAgg9
  z9 := Tryd.sizeOf9
  v9 := Tryd.zeroValue9
  t30 := Tryd.underlying23
  a30 := Tryd.isAgg23
  z30 := Tryd.sizeOf23
  v30 := Tryd.zeroValue23
  t46 := Tryd.underlying84
  a46 := Tryd.isAgg84
  z46 := Tryd.sizeOf84
  v46 := Tryd.zeroValue84
  info5 := by kernel_rfl }
open Go.RowKit Go.Lib in
theorem Tryd.hex_EncodeToString_bytes (bs os cs : Nat) (l : List UInt8) (w : World) (hsrc : ∀ i (h : i < l.length), w.cell? ⟨bs, os + i, none⟩ = some (.int .u8 ((l[i]'h).toNat : Int))) (hb : bs < w.heap.size) (hbig : 2 * l.length ≤ 281474976710656) :
    Calls Tryd.prog 37 #[.slice (some ⟨bs, os, none⟩) l.length cs] w fun e w' => e = .returned (.string ⟨(Hx.encode l).toArray⟩) ∧ Below w.heap.size w w' := Any.hex_EncodeToString_bytes Tryd.laysPah39 bs os cs l w hsrc hb hbig
end Go.Proofs

namespace Go.Proofs.YtaolhgjnlmaooaaDoor
open Go Go.IW

theorem idxS_at {s : List UInt8} {k : Nat} {q : IntKind} {b : UInt8} (hb : s[k]? = some b) : idxSF (.str s) (.int q (k : Int)) = some (.int .u8 b.toNat) :=
  idxSF_of (by omega) (by simpa using hb)

end Go.Proofs.YtaolhgjnlmaooaaDoor

namespace Go.Proofs.YtaolhgjnlmaooaaDoor
open Go Go.IW

end Go.Proofs.YtaolhgjnlmaooaaDoor

namespace Go.Proofs.YtaolhgjnlmaooaaDoor
open Go Go.IW

end Go.Proofs.YtaolhgjnlmaooaaDoor

namespace Go.Proofs.YtaolhgjnlmaooaaDoor
open Go Go.IW

theorem strRows_append (a b : List UInt8) : strRows (a ++ b) = strRows a ++ strRows b := by simp [strRows]
theorem strRows_len (a : List UInt8) : (strRows a).length = a.length := by simp [strRows]
theorem strRows_at {a : List UInt8} {k : Nat} {b : UInt8} (h : a[k]? = some b) : (strRows a)[k]? = some [.int .u8 b.toNat] := by
  unfold strRows; rw [List.getElem?_map, h]; rfl

set_option maxRecDepth 20000 in
theorem l01In_c (h : IH) (n lo hi : Int) :
    ICalls Tryd.prog 52 [.int .i64 n, .int .i64 lo, .int .i64 hi] h fun r h' => r = .bool (decide (lo ≤ n) && decide (n ≤ hi)) ∧ h' = h := by
  refine icalls (.of ok52) (Nat.le_of_ble_eq_true rfl) ?_
  unfold c52
  simp only [go_sem, Hold.p, HoldK.k, HoldL.K, HoldL.body, Nat.reduceBEq, Nat.reduceAdd, List.getElem?_cons_zero, List.getElem?_cons_succ, Option.bind_some, List.map_cons, List.map_nil, Nat.zero_add, if_true, List.getD_cons_zero, List.getD_cons_succ, List.contains_cons, List.contains_nil, Nat.reduceBEq, Bool.or_true, Bool.true_or, Bool.or_false, Bool.false_or, Bool.not_true, Bool.not_false, true_and, and_true]
set_option maxRecDepth 20000 in
theorem l10PortOK_c (h : IH) (n : Int) :
    ICalls Tryd.prog 50 [.int .i64 n] h fun r h' => r = .bool (decide (0 ≤ n) && decide (n ≤ 65535)) ∧ h' = h := by
  refine icalls (.of ok50) (Nat.le_of_ble_eq_true rfl) ?_
  unfold c50
  simp only [go_sem, Hold.p, HoldK.k, HoldL.K, HoldL.body, Nat.reduceBEq, Nat.reduceAdd, List.getElem?_cons_zero, List.getElem?_cons_succ, Option.bind_some, List.map_cons, List.map_nil, Nat.zero_add, if_true, List.getD_cons_zero, List.getD_cons_succ, List.contains_cons, List.contains_nil, Nat.reduceBEq, Bool.or_true, Bool.true_or, Bool.or_false, Bool.false_or, Bool.not_true, Bool.not_false, true_and, and_true]
  refine callA_of (l01In_c h n 0 65535) ?_
  rintro r h' ⟨rfl, rfl⟩
  simp only [go_sem, Hold.p, HoldK.k, HoldL.K, HoldL.body, Nat.reduceBEq, Nat.reduceAdd, List.getElem?_cons_zero, List.getElem?_cons_succ, Option.bind_some, List.map_cons, List.map_nil, Nat.zero_add, if_true, List.getD_cons_zero, List.getD_cons_succ, List.contains_cons, List.contains_nil, Nat.reduceBEq, Bool.or_true, Bool.true_or, Bool.or_false, Bool.false_or, Bool.not_true, Bool.not_false, true_and, and_true]
end Go.Proofs.YtaolhgjnlmaooaaDoor

namespace Go.Proofs.YtaolhgjnlmaooaaDoor
open Go Go.IW

/-! When a reply is well. -/
def okAddr (a : Int) : Bool := decide (0 ≤ a) && decide (a ≤ 4294967295)
set_option maxRecDepth 20000 in
theorem l02AddrOK_c (h : IH) (n : Int) : ICalls Tryd.prog 73 [.int .i64 n] h fun r h' => r = .bool (okAddr n) ∧ h' = h := by
  refine icalls (.of ok73) (Nat.le_of_ble_eq_true rfl) ?_
  unfold c73
  simp only [go_sem, Hold.p, HoldK.k, HoldL.K, HoldL.body, Nat.reduceBEq, Nat.reduceAdd, List.getElem?_cons_zero, List.getElem?_cons_succ, Option.bind_some, List.map_cons, List.map_nil, Nat.zero_add, if_true, List.getD_cons_zero, List.getD_cons_succ, List.contains_cons, List.contains_nil, Nat.reduceBEq, Bool.or_true, Bool.true_or, Bool.or_false, Bool.false_or, Bool.not_true, Bool.not_false, true_and, and_true]
  refine callA_of (l01In_c h n 0 4294967295) ?_
  rintro r h' ⟨rfl, rfl⟩
  simp only [okAddr, go_sem, Hold.p, HoldK.k, HoldL.K, HoldL.body, Nat.reduceBEq, Nat.reduceAdd, List.getElem?_cons_zero, List.getElem?_cons_succ, Option.bind_some, List.map_cons, List.map_nil, Nat.zero_add, if_true, List.getD_cons_zero, List.getD_cons_succ, List.contains_cons, List.contains_nil, Nat.reduceBEq, Bool.or_true, Bool.true_or, Bool.or_false, Bool.false_or, Bool.not_true, Bool.not_false, true_and, and_true]

end Go.Proofs.YtaolhgjnlmaooaaDoor

namespace Go.Proofs.YtaolhgjnlmaooaaDoor
open Go Go.IW

def hexS : List UInt8 := [48, 49, 50, 51, 52, 53, 54, 55, 56, 57, 97, 98, 99, 100, 101, 102]
def hexD (k : Nat) : UInt8 := hexS.getD k 0
theorem hexS_at {k : Nat} (h : k < 16) : hexS[k]? = some (hexD k) := by
  unfold hexD
  rw [List.getD_eq_getElem?_getD, List.getElem?_eq_getElem h]; rfl
def hex2 (b : UInt8) : List UInt8 := [hexD (b.toNat / 16), hexD (b.toNat % 16)]
theorem flat_snocB {f : UInt8 → List UInt8} {bs : List UInt8} {k : Nat} {b : UInt8} (h : bs[k]? = some b) : (bs.take (k + 1)).flatMap f = (bs.take k).flatMap f ++ f b := by
  rw [List.take_add_one, h]; simp
theorem and15 (b : UInt8) : IW.bits .and .u8 (b.toNat : Int) 15 = ((b.toNat % 16 : Nat) : Int) := by
  have key : ∀ n : Fin 256, IW.bits .and .u8 (n.val : Int) 15 = ((n.val % 16 : Nat) : Int) := by decide +kernel
  exact key ⟨b.toNat, b.toNat_lt⟩
theorem shr4 (b : UInt8) : ibin .shr (.int .u8 (b.toNat : Int)) (.int .u64 4) = some (.int .u8 ((b.toNat / 16 : Nat) : Int)) := by
  have h := ib_shr (k := .u8) (a := (b.toNat : Int)) (b := 4) .u64 (by decide)
  have hm : min (4 : Int).toNat IntKind.u8.bits = 4 := rfl
  rw [hm, Int.fdiv_eq_ediv_of_nonneg _ (by decide)] at h
  have : ((b.toNat : Int) / 2 ^ 4) = ((b.toNat / 16 : Nat) : Int) := by simp
  rw [this] at h
  exact h
set_option maxRecDepth 20000 in
theorem l11HexText_c (h : IH) (v : IV) (bs : List UInt8) (hs : SlR h 1 v (strRows bs)) (hl : bs.length ≤ 1048576) : ICalls Tryd.prog 32 [v] h fun r h' => r = .str (bs.flatMap hex2) ∧ Ext h h' := by
  refine icalls (.of ok32) (Nat.le_of_ble_eq_true rfl) ?_
  unfold c32
  have hlen := hs.lenF
  rw [strRows_len] at hlen
  simp only [go_sem, Hold.p, HoldK.k, HoldL.K, HoldL.body, Nat.reduceBEq, Nat.reduceAdd, List.getElem?_cons_zero, List.getElem?_cons_succ, Option.bind_some, List.map_cons, List.map_nil, Nat.zero_add, if_true, List.getD_cons_zero, List.getD_cons_succ, List.contains_cons, List.contains_nil, Nat.reduceBEq, Bool.or_true, Bool.true_or, Bool.or_false, Bool.false_or, Bool.not_true, Bool.not_false, true_and, and_true, rowA_whole, push_n, set_n, push_obj, set_obj, set_push, set_push_ne, set_set, Nat.add_assoc, Nat.left_eq_add, Nat.add_eq_left, Nat.add_left_cancel_iff, Nat.reduceEqDiff, stO_1s, stO_ws, boxA_s, one_bool, one_int, one_str, one_ptr, one_nilptr, one_slice, one_eslice, one_nilslice, one_func, one_iface, one_niliface, List.all_cons, List.all_nil, List.length_cons, List.length_nil, Nat.reduceLT, Nat.reduceEqDiff, Nat.reduceLeDiff, Bool.and_true, Nat.one_ne_zero, Nat.succ_ne_zero, reduceIte, if_false, List.getElem?_cons_zero, List.set_cons_zero, List.set_cons_succ]
  refine loop_at (fun n e g => ∃ (x : IV) (lo hi k : Nat), n = bs.length - k ∧ k ≤ bs.length ∧ e 0 = v ∧ e 3 = .str hexS ∧ e 4 = x ∧ e 5 = .int .i64 (k : Nat) ∧ Ext h g ∧ h.n ≤ lo ∧ hi ≤ g.n ∧ Own lo hi g 5 1 x (strRows ((bs.take k).flatMap hex2))) bs.length ?_ ?_
  · refine ⟨.eslice true, h.n, h.n, 0, by omega, by omega, ?_⟩
    simp only [go_sem, Hold.p, HoldK.k, HoldL.K, HoldL.body, Nat.reduceBEq, Nat.reduceAdd, List.getElem?_cons_zero, List.getElem?_cons_succ, Option.bind_some, List.map_cons, List.map_nil, Nat.zero_add, if_true, List.getD_cons_zero, List.getD_cons_succ, List.contains_cons, List.contains_nil, Nat.reduceBEq, Bool.or_true, Bool.true_or, Bool.or_false, Bool.false_or, Bool.not_true, Bool.not_false, true_and, and_true, rowA_whole, push_n, set_n, push_obj, set_obj, set_push, set_push_ne, set_set, Nat.add_assoc, Nat.left_eq_add, Nat.add_eq_left, Nat.add_left_cancel_iff, Nat.reduceEqDiff, stO_1s, stO_ws, boxA_s, one_bool, one_int, one_str, one_ptr, one_nilptr, one_slice, one_eslice, one_nilslice, one_func, one_iface, one_niliface, List.all_cons, List.all_nil, List.length_cons, List.length_nil, Nat.reduceLT, Nat.reduceEqDiff, Nat.reduceLeDiff, Bool.and_true, Nat.one_ne_zero, Nat.succ_ne_zero, reduceIte, if_false, List.getElem?_cons_zero, List.set_cons_zero, List.set_cons_succ]
    exact ⟨rfl, rfl, Ext.refl _, Nat.le_refl _, Nat.le_refl _, Own.empty⟩
  · rintro n e g ⟨x, lo, hi, k, rfl, hk, i0, i3, i4, i5, E, hlo, hhi, o⟩
    have hle := E.le
    have hfl : ((bs.take k).flatMap hex2).length ≤ 2 * bs.length := by
      have key : ∀ l : List UInt8, (l.flatMap hex2).length = 2 * l.length := fun l => by
        induction l with
        | nil => rfl
        | cons a l ih => rw [List.flatMap_cons, List.length_append, ih]; simp [hex2]; omega
      rw [key, List.length_take]; omega
    simp only [i0, i3, i4, i5, hlen, go_sem, Hold.p, HoldK.k, HoldL.K, HoldL.body, Nat.reduceBEq, Nat.reduceAdd, List.getElem?_cons_zero, List.getElem?_cons_succ, Option.bind_some, List.map_cons, List.map_nil, Nat.zero_add, if_true, List.getD_cons_zero, List.getD_cons_succ, List.contains_cons, List.contains_nil, Nat.reduceBEq, Bool.or_true, Bool.true_or, Bool.or_false, Bool.false_or, Bool.not_true, Bool.not_false, true_and, and_true, rowA_whole, push_n, set_n, push_obj, set_obj, set_push, set_push_ne, set_set, Nat.add_assoc, Nat.left_eq_add, Nat.add_eq_left, Nat.add_left_cancel_iff, Nat.reduceEqDiff, stO_1s, stO_ws, boxA_s, one_bool, one_int, one_str, one_ptr, one_nilptr, one_slice, one_eslice, one_nilslice, one_func, one_iface, one_niliface, List.all_cons, List.all_nil, List.length_cons, List.length_nil, Nat.reduceLT, Nat.reduceEqDiff, Nat.reduceLeDiff, Bool.and_true, Nat.one_ne_zero, Nat.succ_ne_zero, reduceIte, if_false, List.getElem?_cons_zero, List.set_cons_zero, List.set_cons_succ]
    refine test_dec (fun hlt => ?_) (fun hlt => ?_)
    · have hlt' : k < bs.length := by omega
      have hkp : bs[k]? = some bs[k] := List.getElem?_eq_getElem hlt'
      generalize bs[k] = b at hkp
      have hb := b.toNat_lt
      obtain ⟨l, j, hia, hll, hrow⟩ := (hs.ext E).at (m := k) (strRows_at hkp) .i64
      have hc := cellO_row hrow
      have x1 := idxS_at (q := .u8) (hexS_at (k := b.toNat / 16) (by omega))
      have x2 := idxS_at (q := .u8) (hexS_at (k := b.toNat % 16) (by omega))
      have nl : (l = g.n) = False := by simp; omega
      simp only [i0, i3, i4, i5, hia, hc, shr4, x1, bslA_1, go_sem, Hold.p, HoldK.k, HoldL.K, HoldL.body, Nat.reduceBEq, Nat.reduceAdd, List.getElem?_cons_zero, List.getElem?_cons_succ, Option.bind_some, List.map_cons, List.map_nil, Nat.zero_add, if_true, List.getD_cons_zero, List.getD_cons_succ, List.contains_cons, List.contains_nil, Nat.reduceBEq, Bool.or_true, Bool.true_or, Bool.or_false, Bool.false_or, Bool.not_true, Bool.not_false, true_and, and_true, rowA_whole, push_n, set_n, push_obj, set_obj, set_push, set_push_ne, set_set, Nat.add_assoc, Nat.left_eq_add, Nat.add_eq_left, Nat.add_left_cancel_iff, Nat.reduceEqDiff, stO_1s, stO_ws, boxA_s, one_bool, one_int, one_str, one_ptr, one_nilptr, one_slice, one_eslice, one_nilslice, one_func, one_iface, one_niliface, List.all_cons, List.all_nil, List.length_cons, List.length_nil, Nat.reduceLT, Nat.reduceEqDiff, Nat.reduceLeDiff, Bool.and_true, Nat.one_ne_zero, Nat.succ_ne_zero, reduceIte, if_false, List.getElem?_cons_zero, List.set_cons_zero, List.set_cons_succ]
      generalize hq_g1 : IH.push g (IObj.rows [[.int .u8 (hexD (b.toNat / 16)).toNat]] 5 1 false) = g1
      have e_g1 : Ext g g1 := by rw [← hq_g1]; exact (Ext.refl _).push _
      have l_g1 : g1.n = g.n + 1 := by rw [← hq_g1]; rfl
      have ba : At g1 g.n (IObj.rows [[.int .u8 (hexD (b.toNat / 16)).toNat]] 5 1 false) := by rw [← hq_g1]; exact At.new _ _
      clear hq_g1
      have o := o.ext e_g1
      have E := E.ext e_g1
      refine o.app (by simp) (by rw [strRows_len, List.length_singleton]; omega) ?_
      intro v6 h6 o6 t6 n6 v6o v6c
      have E := E.turn o (by omega) t6
      have le_t6 := t6.le
      have hs6 := hs.ext E
      obtain ⟨l2, j2, hia2, hll2, hrow2⟩ := hs6.at (m := k) (strRows_at hkp) .i64
      have hc2 := cellO_row hrow2
      have o7 : Own g1.n (g1.n + 1) h6 5 1 v6 (strRows ((bs.take k).flatMap hex2 ++ [hexD (b.toNat / 16)])) := by rw [strRows_append]; exact o6
      simp only [i0, i3, i4, i5, hia2, hc2, and15, x2, bslA_1, go_sem, Hold.p, HoldK.k, HoldL.K, HoldL.body, Nat.reduceBEq, Nat.reduceAdd, List.getElem?_cons_zero, List.getElem?_cons_succ, Option.bind_some, List.map_cons, List.map_nil, Nat.zero_add, if_true, List.getD_cons_zero, List.getD_cons_succ, List.contains_cons, List.contains_nil, Nat.reduceBEq, Bool.or_true, Bool.true_or, Bool.or_false, Bool.false_or, Bool.not_true, Bool.not_false, true_and, and_true, rowA_whole, push_n, set_n, push_obj, set_obj, set_push, set_push_ne, set_set, Nat.add_assoc, Nat.left_eq_add, Nat.add_eq_left, Nat.add_left_cancel_iff, Nat.reduceEqDiff, stO_1s, stO_ws, boxA_s, one_bool, one_int, one_str, one_ptr, one_nilptr, one_slice, one_eslice, one_nilslice, one_func, one_iface, one_niliface, List.all_cons, List.all_nil, List.length_cons, List.length_nil, Nat.reduceLT, Nat.reduceEqDiff, Nat.reduceLeDiff, Bool.and_true, Nat.one_ne_zero, Nat.succ_ne_zero, reduceIte, if_false, List.getElem?_cons_zero, List.set_cons_zero, List.set_cons_succ]
      generalize hq_g8 : IH.push h6 (IObj.rows [[.int .u8 (hexD (b.toNat % 16)).toNat]] 5 1 false) = g8
      have e_g8 : Ext h6 g8 := by rw [← hq_g8]; exact (Ext.refl _).push _
      have l_g8 : g8.n = h6.n + 1 := by rw [← hq_g8]; rfl
      have bb : At g8 h6.n (IObj.rows [[.int .u8 (hexD (b.toNat % 16)).toNat]] 5 1 false) := by rw [← hq_g8]; exact At.new _ _
      clear hq_g8
      have o7 := o7.ext e_g8
      have E := E.ext e_g8
      refine o7.app (by simp) (by rw [strRows_len, List.length_append, List.length_singleton, List.length_singleton]; omega) ?_
      intro v9 h9 o9 t9 n9 v9o v9c
      have E := E.turn o7 (by omega) t9
      have le_t9 := t9.le
      simp only [i0, i3, i4, i5, go_sem, Hold.p, HoldK.k, HoldL.K, HoldL.body, Nat.reduceBEq, Nat.reduceAdd, List.getElem?_cons_zero, List.getElem?_cons_succ, Option.bind_some, List.map_cons, List.map_nil, Nat.zero_add, if_true, List.getD_cons_zero, List.getD_cons_succ, List.contains_cons, List.contains_nil, Nat.reduceBEq, Bool.or_true, Bool.true_or, Bool.or_false, Bool.false_or, Bool.not_true, Bool.not_false, true_and, and_true, rowA_whole, push_n, set_n, push_obj, set_obj, set_push, set_push_ne, set_set, Nat.add_assoc, Nat.left_eq_add, Nat.add_eq_left, Nat.add_left_cancel_iff, Nat.reduceEqDiff, stO_1s, stO_ws, boxA_s, one_bool, one_int, one_str, one_ptr, one_nilptr, one_slice, one_eslice, one_nilslice, one_func, one_iface, one_niliface, List.all_cons, List.all_nil, List.length_cons, List.length_nil, Nat.reduceLT, Nat.reduceEqDiff, Nat.reduceLeDiff, Bool.and_true, Nat.one_ne_zero, Nat.succ_ne_zero, reduceIte, if_false, List.getElem?_cons_zero, List.set_cons_zero, List.set_cons_succ]
      refine ⟨_, ?_, v9, g8.n, g8.n + 1, k + 1, rfl, by omega, rfl, wr64_succ k (by omega), E, by omega, by omega, ?_⟩
      · omega
      · rw [flat_snocB hkp]
        have : strRows ((bs.take k).flatMap hex2 ++ hex2 b) = strRows ((bs.take k).flatMap hex2 ++ [hexD (b.toNat / 16)]) ++ [[IV.int .u8 (hexD (b.toNat % 16)).toNat]] := by simp [strRows, hex2]
        rw [this]; exact o9
    · obtain rfl : k = bs.length := by omega
      rw [List.take_length] at o
      have hb2 := o.sl.b2s
      simp only [i0, i4, hb2, go_sem, Hold.p, HoldK.k, HoldL.K, HoldL.body, Nat.reduceBEq, Nat.reduceAdd, List.getElem?_cons_zero, List.getElem?_cons_succ, Option.bind_some, List.map_cons, List.map_nil, Nat.zero_add, if_true, List.getD_cons_zero, List.getD_cons_succ, List.contains_cons, List.contains_nil, Nat.reduceBEq, Bool.or_true, Bool.true_or, Bool.or_false, Bool.false_or, Bool.not_true, Bool.not_false, true_and, and_true, rowA_whole, push_n, set_n, push_obj, set_obj, set_push, set_push_ne, set_set, Nat.add_assoc, Nat.left_eq_add, Nat.add_eq_left, Nat.add_left_cancel_iff, Nat.reduceEqDiff, stO_1s, stO_ws, boxA_s, one_bool, one_int, one_str, one_ptr, one_nilptr, one_slice, one_eslice, one_nilslice, one_func, one_iface, one_niliface, List.all_cons, List.all_nil, List.length_cons, List.length_nil, Nat.reduceLT, Nat.reduceEqDiff, Nat.reduceLeDiff, Bool.and_true, Nat.one_ne_zero, Nat.succ_ne_zero, reduceIte, if_false, List.getElem?_cons_zero, List.set_cons_zero, List.set_cons_succ]
      exact E
end Go.Proofs.YtaolhgjnlmaooaaDoor

namespace Go.Proofs.YtaolhgjnlmaooaaDoor
open Go Go.IW

/-! Numerals. -/
theorem itoa_nn (n : Nat) : Lib.itoa (n : Int) = Lib.decDigits n := by
  unfold Lib.itoa; rw [if_neg (by omega)]; simp
theorem dec_le (n : Nat) (h : n < 18446744073709551616) : (Lib.decDigits n).length ≤ 20 := by rw [Lib.decDigits_length]; exact Lib.nDigits_le20 n h

end Go.Proofs.YtaolhgjnlmaooaaDoor

namespace Go.Proofs.YtaolhgjnlmaooaaDoor
open Go Go.IW
section
attribute [local go_sem] List.getElem?_cons_zero List.getElem?_cons_succ Option.bind_some List.map_cons List.map_nil Nat.zero_add if_true List.getD_cons_zero List.getD_cons_succ List.contains_cons List.contains_nil Bool.or_true Bool.true_or Bool.or_false Bool.false_or Bool.not_true Bool.not_false true_and and_true rowA_whole mid_get stO_mid rowO_rows cellO_rows push_n set_n push_at push_old set_here set_there set_pushT set_pushN set_set upd_ne Nat.add_assoc Nat.add_zero stO_1s stO_ws boxA_s List.all_cons List.all_nil one_bool one_int one_str one_ptr one_nilptr one_slice one_eslice one_nilslice one_func one_iface one_niliface Bool.and_true Bool.and_self List.length_cons List.length_nil Nat.one_ne_zero Nat.succ_ne_zero if_false List.set_cons_zero List.set_cons_succ lay_nil lay_1 lay_w Option.map_some

theorem dec_big {n : Nat} (h : ¬ n < 10) : Lib.decDigits n = Lib.decDigits (n / 10) ++ [UInt8.ofNat (48 + n % 10)] := by
  rw [Lib.decDigits, dif_neg h]
theorem dec_small {n : Nat} (h : n < 10) : Lib.decDigits n = [UInt8.ofNat (48 + n)] := by
  rw [Lib.decDigits, dif_pos h]
theorem digit_wr {n : Nat} (h : n < 10) : wr .u8 (wr .i64 (48 + (n : Int))) = ((UInt8.ofNat (48 + n)).toNat : Int) := by
  rw [wr64 _ (by omega)]
  unfold wr
  rw [IntKind.wrap_u8, UInt8.toNat_ofNat']
  omega
theorem b2s_one (b : UInt8) : bytesOf (List.take 1 (List.drop 0 [[IV.int .u8 (b.toNat : Int)]])) = some [b] := by
  simp [bytesOf]
theorem quo_nat (a b : Nat) (hb : b ≠ 0) (ha : a ≤ 9223372036854775807) (hb2 : b ≤ 9223372036854775807) : ibin .quo (.int .i64 (a : Int)) (.int .i64 (b : Int)) = some (.int .i64 ((a / b : Nat) : Int)) := by
  have h0 : (b : Int) ≠ 0 := by omega
  have hle : a / b ≤ a := Nat.div_le_self a b
  have e : Int.tdiv (a : Int) (b : Int) = ((a / b : Nat) : Int) := by rw [Int.tdiv_eq_ediv_of_nonneg (by omega)]; rfl
  have h2 : (0 : Int) ≤ ((a / b : Nat) : Int) := Int.natCast_nonneg _
  have h3 : ((a / b : Nat) : Int) ≤ (a : Int) := by exact_mod_cast hle
  unfold ibin
  simp only [if_true, if_neg h0]
  rw [e, wr64 _ ⟨by omega, by omega⟩]
theorem rem_nat (a b : Nat) (hb : b ≠ 0) : ibin .rem (.int .i64 (a : Int)) (.int .i64 (b : Int)) = some (.int .i64 ((a % b : Nat) : Int)) := by
  have h0 : (b : Int) ≠ 0 := by omega
  have e : Int.tmod (a : Int) (b : Int) = ((a % b : Nat) : Int) := by rw [Int.tmod_eq_emod_of_nonneg (by omega)]; rfl
  simp only [ibin, if_true, if_neg h0, e]

set_option maxRecDepth 20000 in
theorem l02Dec_c : ∀ (n : Nat) (h : IH), n ≤ 9223372036854775807 → ICalls Tryd.prog 29 [.int .i64 n] h fun r h' => r = .str (Lib.decDigits n) ∧ Ext h h' := by
  intro n
  induction n using Nat.strongRecOn with
  | ind n ih =>
    intro h hn
    refine icalls (.of ok29) (Nat.le_of_ble_eq_true rfl) ?_
    unfold c29
    by_cases h1 : n < 10
    · have d1 : decide ((n : Int) < 10) = true := decide_eq_true (by omega)
      have hw := digit_wr h1
      simp (disch := (first | omega | assumption | (simp only [push_n, set_n, put_n, List.length_cons, List.length_nil, List.length_append, Nat.reduceAdd]; done) | (simp only [push_n, set_n, put_n, List.length_cons, List.length_nil, List.length_append]; omega) | (simp only [List.all_cons, List.all_nil, one_bool, one_int, one_str, one_ptr, one_nilptr, one_slice, one_eslice, one_nilslice, one_func, one_iface, one_niliface, Bool.and_true, Bool.true_and, List.getD_cons_zero, List.getD_cons_succ, List.contains_cons, List.contains_nil, Bool.or_true, Bool.true_or, Bool.or_false, Bool.false_or, Nat.reduceBEq, *]; done) | fail)) only [d1, hw, b2s_one, Nat.le_refl, go_sem, Hold.p, HoldK.k, HoldL.K, HoldL.body, Nat.reduceBEq, Nat.reduceAdd, reduceIte]
      rw [dec_small h1]
      exact ⟨rfl, (Ext.refl _).push _⟩
    · have d1 : decide ((n : Int) < 10) = false := decide_eq_false (by omega)
      have hq : ibin .quo (.int .i64 (n : Int)) (.int .i64 10) = some (.int .i64 ((n / 10 : Nat) : Int)) := quo_nat n 10 (by omega) hn (by omega)
      have hr : ibin .rem (.int .i64 (n : Int)) (.int .i64 10) = some (.int .i64 ((n % 10 : Nat) : Int)) := rem_nat n 10 (by omega)
      have hm : n % 10 < 10 := Nat.mod_lt _ (by omega)
      have hw := digit_wr hm
      have hlen := dec_le (n / 10) (by omega)
      have hc := ibs_cat (s := Lib.decDigits (n / 10)) (t := [UInt8.ofNat (48 + n % 10)]) (by simp; omega)
      have hd : n / 10 < n := by omega
      simp (disch := (first | omega | assumption | (simp only [push_n, set_n, put_n, List.length_cons, List.length_nil, List.length_append, Nat.reduceAdd]; done) | (simp only [push_n, set_n, put_n, List.length_cons, List.length_nil, List.length_append]; omega) | (simp only [List.all_cons, List.all_nil, one_bool, one_int, one_str, one_ptr, one_nilptr, one_slice, one_eslice, one_nilslice, one_func, one_iface, one_niliface, Bool.and_true, Bool.true_and, List.getD_cons_zero, List.getD_cons_succ, List.contains_cons, List.contains_nil, Bool.or_true, Bool.true_or, Bool.or_false, Bool.false_or, Nat.reduceBEq, *]; done) | fail)) only [d1, hq, hr, hw, b2s_one, Nat.le_refl, go_sem, Hold.p, HoldK.k, HoldL.K, HoldL.body, Nat.reduceBEq, Nat.reduceAdd, reduceIte]
      refine either_of ?_ ?_
      · simp (disch := (first | omega | assumption | (simp only [push_n, set_n, put_n, List.length_cons, List.length_nil, List.length_append, Nat.reduceAdd]; done) | (simp only [push_n, set_n, put_n, List.length_cons, List.length_nil, List.length_append]; omega) | (simp only [List.all_cons, List.all_nil, one_bool, one_int, one_str, one_ptr, one_nilptr, one_slice, one_eslice, one_nilslice, one_func, one_iface, one_niliface, Bool.and_true, Bool.true_and, List.getD_cons_zero, List.getD_cons_succ, List.contains_cons, List.contains_nil, Bool.or_true, Bool.true_or, Bool.or_false, Bool.false_or, Nat.reduceBEq, *]; done) | fail)) only [go_sem, Hold.p, HoldK.k, HoldL.K, HoldL.body, Nat.reduceBEq, Nat.reduceAdd, reduceIte]
        refine callA_of (ih (n / 10) hd h (by omega)) ?_
        rintro r h2 ⟨rfl, E⟩
        simp (disch := (first | omega | assumption | (simp only [push_n, set_n, put_n, List.length_cons, List.length_nil, List.length_append, Nat.reduceAdd]; done) | (simp only [push_n, set_n, put_n, List.length_cons, List.length_nil, List.length_append]; omega) | (simp only [List.all_cons, List.all_nil, one_bool, one_int, one_str, one_ptr, one_nilptr, one_slice, one_eslice, one_nilslice, one_func, one_iface, one_niliface, Bool.and_true, Bool.true_and, List.getD_cons_zero, List.getD_cons_succ, List.contains_cons, List.contains_nil, Bool.or_true, Bool.true_or, Bool.or_false, Bool.false_or, Nat.reduceBEq, *]; done) | fail)) only [hq, hr, hw, b2s_one, Nat.le_refl, hc, go_sem, Hold.p, HoldK.k, HoldL.K, HoldL.body, Nat.reduceBEq, Nat.reduceAdd, reduceIte]
        rw [dec_big h1]
        exact ⟨rfl, E.push _⟩
      · simp (disch := (first | omega | assumption | (simp only [push_n, set_n, put_n, List.length_cons, List.length_nil, List.length_append, Nat.reduceAdd]; done) | (simp only [push_n, set_n, put_n, List.length_cons, List.length_nil, List.length_append]; omega) | (simp only [List.all_cons, List.all_nil, one_bool, one_int, one_str, one_ptr, one_nilptr, one_slice, one_eslice, one_nilslice, one_func, one_iface, one_niliface, Bool.and_true, Bool.true_and, List.getD_cons_zero, List.getD_cons_succ, List.contains_cons, List.contains_nil, Bool.or_true, Bool.true_or, Bool.or_false, Bool.false_or, Nat.reduceBEq, *]; done) | fail)) only [hq, hr, hw, b2s_one, Nat.le_refl, go_sem, Hold.p, HoldK.k, HoldL.K, HoldL.body, Nat.reduceBEq, Nat.reduceAdd, reduceIte]
        refine callA_of (ih (n / 10) hd _ (by omega)) ?_
        rintro r h2 ⟨rfl, E⟩
        simp (disch := (first | omega | assumption | (simp only [push_n, set_n, put_n, List.length_cons, List.length_nil, List.length_append, Nat.reduceAdd]; done) | (simp only [push_n, set_n, put_n, List.length_cons, List.length_nil, List.length_append]; omega) | (simp only [List.all_cons, List.all_nil, one_bool, one_int, one_str, one_ptr, one_nilptr, one_slice, one_eslice, one_nilslice, one_func, one_iface, one_niliface, Bool.and_true, Bool.true_and, List.getD_cons_zero, List.getD_cons_succ, List.contains_cons, List.contains_nil, Bool.or_true, Bool.true_or, Bool.or_false, Bool.false_or, Nat.reduceBEq, *]; done) | fail)) only [hq, hr, hw, b2s_one, Nat.le_refl, hc, go_sem, Hold.p, HoldK.k, HoldL.K, HoldL.body, Nat.reduceBEq, Nat.reduceAdd, reduceIte]
        have hb : h2.obj h.n = .rows [[IV.int .u8 ((UInt8.ofNat (48 + n % 10)).toNat : Int)]] 5 1 false := by
          rw [E.obj h.n (by rw [push_n]; omega)]
          exact push_new _ _
        refine ⟨?_, ?_⟩
        · rw [hb, b2sO_rows, if_pos (by simp), b2s_one]; rfl
        · rw [dec_big h1]
          exact ⟨rfl, ((Ext.refl _).push _).trans E⟩
end
end Go.Proofs.YtaolhgjnlmaooaaDoor

set_option maxRecDepth 20000
namespace Go.Proofs.YtaolhgjnlmaooaaDoor
open Go Go.IW
section
attribute [local go_sem] List.getElem?_cons_zero List.getElem?_cons_succ Option.bind_some List.map_cons List.map_nil Nat.zero_add if_true List.getD_cons_zero List.getD_cons_succ List.contains_cons List.contains_nil Bool.or_true Bool.true_or Bool.or_false Bool.false_or Bool.not_true Bool.not_false true_and and_true rowA_whole mid_get stO_mid rowO_rows cellO_rows push_n set_n push_at push_old set_here set_there set_pushT set_pushN set_set upd_ne Nat.add_assoc Nat.add_zero stO_1s stO_ws boxA_s List.all_cons List.all_nil one_bool one_int one_str one_ptr one_nilptr one_slice one_eslice one_nilslice one_func one_iface one_niliface Bool.and_true Bool.and_self List.length_cons List.length_nil Nat.one_ne_zero Nat.succ_ne_zero if_false List.set_cons_zero List.set_cons_succ lay_nil lay_1 lay_w Option.map_some

/-- A segment. -/
structure Seg where
  sp : Int
  dp : Int
  seq : Int
  ack : Int
  fl : Int
  win : Int
  mss : Int
  hs : Bool
  sc : Int
  so : Bool
  sacks : List (Int × Int)
  data : List UInt8
def Seg.cells (s : Seg) (vs vd : IV) : List IV := [.int .i64 s.sp, .int .i64 s.dp, .int .i64 s.seq, .int .i64 s.ack, .int .i64 s.fl, .int .i64 s.win, .int .i64 s.mss, .bool s.hs, .int .i64 s.sc, .bool s.so, vs, vd]
def sackRows (l : List (Int × Int)) : List (List IV) := l.map fun x => [.int .i64 x.1, .int .i64 x.2]
theorem sackRows_len (l : List (Int × Int)) : (sackRows l).length = l.length := by simp [sackRows]
theorem sackRows_at {l : List (Int × Int)} {k : Nat} {x : Int × Int} (h : l[k]? = some x) : (sackRows l)[k]? = some [.int .i64 x.1, .int .i64 x.2] := by simp [sackRows, h]
def portB (n : Int) : Bool := decide (0 ≤ n) && decide (n ≤ 65535)
def sackB (x : Int × Int) : Bool := okAddr x.1 && okAddr x.2
def okHead (s : Seg) : Bool := portB s.sp && portB s.dp && okAddr s.seq && okAddr s.ack && (decide (0 ≤ s.fl) && decide (s.fl ≤ 63)) && portB s.win && portB s.mss && (decide (0 ≤ s.sc) && decide (s.sc ≤ 14)) && (s.hs || decide (s.sc = 0)) && decide ((s.sacks.length : Int) ≤ 3)
def okSeg (s : Seg) : Bool := okHead s && s.sacks.all sackB
theorem okHead_len {s : Seg} (h : okHead s = true) : s.sacks.length ≤ 3 := by
  unfold okHead at h
  simp only [Bool.and_eq_true, decide_eq_true_eq] at h
  omega
theorem lt_not (a b : Int) : decide (a < b) = !decide (b ≤ a) := by
  by_cases h : a < b
  · rw [decide_eq_true h, decide_eq_false (by omega)]; rfl
  · rw [decide_eq_false h, decide_eq_true (by omega)]; rfl

theorem isPort_c (h : IH) (n : Int) : ICalls Tryd.prog 54 [.int .i64 n] h fun r h' => r = .bool (portB n) ∧ h' = h := by
  refine icalls (.of ok54) (Nat.le_of_ble_eq_true rfl) ?_
  unfold c54
  simp (disch := (first | omega | assumption | (simp only [push_n, set_n, put_n, List.length_cons, List.length_nil, List.length_append, Nat.reduceAdd]; done) | (simp only [push_n, set_n, put_n, List.length_cons, List.length_nil, List.length_append]; omega) | (simp only [List.all_cons, List.all_nil, one_bool, one_int, one_str, one_ptr, one_nilptr, one_slice, one_eslice, one_nilslice, one_func, one_iface, one_niliface, Bool.and_true, Bool.true_and, List.getD_cons_zero, List.getD_cons_succ, List.contains_cons, List.contains_nil, Bool.or_true, Bool.true_or, Bool.or_false, Bool.false_or, Nat.reduceBEq, *]; done) | fail)) only [portB, go_sem, Hold.p, HoldK.k, HoldL.K, HoldL.body, Nat.reduceBEq, Nat.reduceAdd, reduceIte]
theorem isSeq_c (h : IH) (n : Int) : ICalls Tryd.prog 55 [.int .i64 n] h fun r h' => r = .bool (okAddr n) ∧ h' = h := by
  refine icalls (.of ok55) (Nat.le_of_ble_eq_true rfl) ?_
  unfold c55
  simp (disch := (first | omega | assumption | (simp only [push_n, set_n, put_n, List.length_cons, List.length_nil, List.length_append, Nat.reduceAdd]; done) | (simp only [push_n, set_n, put_n, List.length_cons, List.length_nil, List.length_append]; omega) | (simp only [List.all_cons, List.all_nil, one_bool, one_int, one_str, one_ptr, one_nilptr, one_slice, one_eslice, one_nilslice, one_func, one_iface, one_niliface, Bool.and_true, Bool.true_and, List.getD_cons_zero, List.getD_cons_succ, List.contains_cons, List.contains_nil, Bool.or_true, Bool.true_or, Bool.or_false, Bool.false_or, Nat.reduceBEq, *]; done) | fail)) only [okAddr, go_sem, Hold.p, HoldK.k, HoldL.K, HoldL.body, Nat.reduceBEq, Nat.reduceAdd, reduceIte]
theorem l11Seq_c (h : IH) (n : Int) : ICalls Tryd.prog 51 [.int .i64 n] h fun r h' => r = .bool (okAddr n) ∧ h' = h := by
  refine icalls (.of ok51) (Nat.le_of_ble_eq_true rfl) ?_
  unfold c51
  simp (disch := (first | omega | assumption | (simp only [push_n, set_n, put_n, List.length_cons, List.length_nil, List.length_append, Nat.reduceAdd]; done) | (simp only [push_n, set_n, put_n, List.length_cons, List.length_nil, List.length_append]; omega) | (simp only [List.all_cons, List.all_nil, one_bool, one_int, one_str, one_ptr, one_nilptr, one_slice, one_eslice, one_nilslice, one_func, one_iface, one_niliface, Bool.and_true, Bool.true_and, List.getD_cons_zero, List.getD_cons_succ, List.contains_cons, List.contains_nil, Bool.or_true, Bool.true_or, Bool.or_false, Bool.false_or, Nat.reduceBEq, *]; done) | fail)) only [go_sem, Hold.p, HoldK.k, HoldL.K, HoldL.body, Nat.reduceBEq, Nat.reduceAdd, reduceIte]
  refine callA_of (l02AddrOK_c h n) ?_
  rintro r h' ⟨rfl, rfl⟩
  simp (disch := (first | omega | assumption | (simp only [push_n, set_n, put_n, List.length_cons, List.length_nil, List.length_append, Nat.reduceAdd]; done) | (simp only [push_n, set_n, put_n, List.length_cons, List.length_nil, List.length_append]; omega) | (simp only [List.all_cons, List.all_nil, one_bool, one_int, one_str, one_ptr, one_nilptr, one_slice, one_eslice, one_nilslice, one_func, one_iface, one_niliface, Bool.and_true, Bool.true_and, List.getD_cons_zero, List.getD_cons_succ, List.contains_cons, List.contains_nil, Bool.or_true, Bool.true_or, Bool.or_false, Bool.false_or, Nat.reduceBEq, *]; done) | fail)) only [go_sem, Hold.p, HoldK.k, HoldL.K, HoldL.body, Nat.reduceBEq, Nat.reduceAdd, reduceIte]
theorem portOK_c (h : IH) (n : Int) : ICalls Tryd.prog 50 [.int .i64 n] h fun r h' => r = .bool (portB n) ∧ h' = h := l10PortOK_c h n

theorem implOkSegment_c (h : IH) (s : Seg) (vs vd : IV) (hs : SlR h 2 vs (sackRows s.sacks)) (hd : SlR h 1 vd (strRows s.data)) :
    ICalls Tryd.prog 35 [.agg (s.cells vs vd)] h fun r h' => r = .bool (okSeg s) ∧ Ext h h' := by
  refine icalls (.of ok35) (Nat.le_of_ble_eq_true rfl) ?_
  unfold c35 Seg.cells
  have hs0 := hs
  have v1 := hs.one
  have v2 := hd.one
  have v3 := hs.lenF
  rw [sackRows_len] at v3
  simp (disch := (first | omega | assumption | (simp only [push_n, set_n, put_n, List.length_cons, List.length_nil, List.length_append, Nat.reduceAdd]; done) | (simp only [push_n, set_n, put_n, List.length_cons, List.length_nil, List.length_append]; omega) | (simp only [List.all_cons, List.all_nil, one_bool, one_int, one_str, one_ptr, one_nilptr, one_slice, one_eslice, one_nilslice, one_func, one_iface, one_niliface, Bool.and_true, Bool.true_and, List.getD_cons_zero, List.getD_cons_succ, List.contains_cons, List.contains_nil, Bool.or_true, Bool.true_or, Bool.or_false, Bool.false_or, Nat.reduceBEq, *]; done) | fail)) only [v1, v2, go_sem, Hold.p, HoldK.k, HoldL.K, HoldL.body, Nat.reduceBEq, Nat.reduceAdd, reduceIte]
  generalize hq_g : IH.push h (IObj.rows [[IV.int .i64 s.sp, .int .i64 s.dp, .int .i64 s.seq, .int .i64 s.ack, .int .i64 s.fl, .int .i64 s.win, .int .i64 s.mss, .bool s.hs, .int .i64 s.sc, .bool s.so, vs, vd]] 31 12 false) = g
  have e_g : Ext h g := by rw [← hq_g]; exact (Ext.refl _).push _
  have l_g : g.n = h.n + 1 := by rw [← hq_g]; rfl
  have b : At g h.n (IObj.rows [[IV.int .i64 s.sp, .int .i64 s.dp, .int .i64 s.seq, .int .i64 s.ack, .int .i64 s.fl, .int .i64 s.win, .int .i64 s.mss, .bool s.hs, .int .i64 s.sc, .bool s.so, vs, vd]] 31 12 false) := by rw [← hq_g]; exact At.new _ _
  clear hq_g
  have hs := hs.ext e_g
  have q := b.eq
  try simp (disch := (first | omega | assumption | (simp only [push_n, set_n, put_n, List.length_cons, List.length_nil, List.length_append, Nat.reduceAdd]; done) | (simp only [push_n, set_n, put_n, List.length_cons, List.length_nil, List.length_append]; omega) | (simp only [List.all_cons, List.all_nil, one_bool, one_int, one_str, one_ptr, one_nilptr, one_slice, one_eslice, one_nilslice, one_func, one_iface, one_niliface, Bool.and_true, Bool.true_and, List.getD_cons_zero, List.getD_cons_succ, List.contains_cons, List.contains_nil, Bool.or_true, Bool.true_or, Bool.or_false, Bool.false_or, Nat.reduceBEq, *]; done) | fail)) only [q, go_sem, Hold.p, HoldK.k, HoldL.K, HoldL.body, Nat.reduceBEq, Nat.reduceAdd, reduceIte]
  refine callA_of (isPort_c g s.sp) ?_
  rintro r g' ⟨rfl, rfl⟩
  simp (disch := (first | omega | assumption | (simp only [push_n, set_n, put_n, List.length_cons, List.length_nil, List.length_append, Nat.reduceAdd]; done) | (simp only [push_n, set_n, put_n, List.length_cons, List.length_nil, List.length_append]; omega) | (simp only [List.all_cons, List.all_nil, one_bool, one_int, one_str, one_ptr, one_nilptr, one_slice, one_eslice, one_nilslice, one_func, one_iface, one_niliface, Bool.and_true, Bool.true_and, List.getD_cons_zero, List.getD_cons_succ, List.contains_cons, List.contains_nil, Bool.or_true, Bool.true_or, Bool.or_false, Bool.false_or, Nat.reduceBEq, *]; done) | fail)) only [q, go_sem, Hold.p, HoldK.k, HoldL.K, HoldL.body, Nat.reduceBEq, Nat.reduceAdd, reduceIte]
  refine guard_pureF (v := .bool (portB s.dp)) (fun hb => ?_) ?_
  · simp (disch := (first | omega | assumption | (simp only [push_n, set_n, put_n, List.length_cons, List.length_nil, List.length_append, Nat.reduceAdd]; done) | (simp only [push_n, set_n, put_n, List.length_cons, List.length_nil, List.length_append]; omega) | (simp only [List.all_cons, List.all_nil, one_bool, one_int, one_str, one_ptr, one_nilptr, one_slice, one_eslice, one_nilslice, one_func, one_iface, one_niliface, Bool.and_true, Bool.true_and, List.getD_cons_zero, List.getD_cons_succ, List.contains_cons, List.contains_nil, Bool.or_true, Bool.true_or, Bool.or_false, Bool.false_or, Nat.reduceBEq, *]; done) | fail)) only [hb, go_sem, Hold.p, HoldK.k, HoldL.K, HoldL.body, Nat.reduceBEq, Nat.reduceAdd, reduceIte]
    exact isPort_c _ _
  simp (disch := (first | omega | assumption | (simp only [push_n, set_n, put_n, List.length_cons, List.length_nil, List.length_append, Nat.reduceAdd]; done) | (simp only [push_n, set_n, put_n, List.length_cons, List.length_nil, List.length_append]; omega) | (simp only [List.all_cons, List.all_nil, one_bool, one_int, one_str, one_ptr, one_nilptr, one_slice, one_eslice, one_nilslice, one_func, one_iface, one_niliface, Bool.and_true, Bool.true_and, List.getD_cons_zero, List.getD_cons_succ, List.contains_cons, List.contains_nil, Bool.or_true, Bool.true_or, Bool.or_false, Bool.false_or, Nat.reduceBEq, *]; done) | fail)) only [q, go_sem, Hold.p, HoldK.k, HoldL.K, HoldL.body, Nat.reduceBEq, Nat.reduceAdd, reduceIte]
  refine guard_pureF (v := .bool (okAddr s.seq)) (fun hb => ?_) ?_
  · simp (disch := (first | omega | assumption | (simp only [push_n, set_n, put_n, List.length_cons, List.length_nil, List.length_append, Nat.reduceAdd]; done) | (simp only [push_n, set_n, put_n, List.length_cons, List.length_nil, List.length_append]; omega) | (simp only [List.all_cons, List.all_nil, one_bool, one_int, one_str, one_ptr, one_nilptr, one_slice, one_eslice, one_nilslice, one_func, one_iface, one_niliface, Bool.and_true, Bool.true_and, List.getD_cons_zero, List.getD_cons_succ, List.contains_cons, List.contains_nil, Bool.or_true, Bool.true_or, Bool.or_false, Bool.false_or, Nat.reduceBEq, *]; done) | fail)) only [hb, go_sem, Hold.p, HoldK.k, HoldL.K, HoldL.body, Nat.reduceBEq, Nat.reduceAdd, reduceIte]
    exact isSeq_c _ _
  simp (disch := (first | omega | assumption | (simp only [push_n, set_n, put_n, List.length_cons, List.length_nil, List.length_append, Nat.reduceAdd]; done) | (simp only [push_n, set_n, put_n, List.length_cons, List.length_nil, List.length_append]; omega) | (simp only [List.all_cons, List.all_nil, one_bool, one_int, one_str, one_ptr, one_nilptr, one_slice, one_eslice, one_nilslice, one_func, one_iface, one_niliface, Bool.and_true, Bool.true_and, List.getD_cons_zero, List.getD_cons_succ, List.contains_cons, List.contains_nil, Bool.or_true, Bool.true_or, Bool.or_false, Bool.false_or, Nat.reduceBEq, *]; done) | fail)) only [q, go_sem, Hold.p, HoldK.k, HoldL.K, HoldL.body, Nat.reduceBEq, Nat.reduceAdd, reduceIte]
  refine guard_pureF (v := .bool (okAddr s.ack)) (fun hb => ?_) ?_
  · simp (disch := (first | omega | assumption | (simp only [push_n, set_n, put_n, List.length_cons, List.length_nil, List.length_append, Nat.reduceAdd]; done) | (simp only [push_n, set_n, put_n, List.length_cons, List.length_nil, List.length_append]; omega) | (simp only [List.all_cons, List.all_nil, one_bool, one_int, one_str, one_ptr, one_nilptr, one_slice, one_eslice, one_nilslice, one_func, one_iface, one_niliface, Bool.and_true, Bool.true_and, List.getD_cons_zero, List.getD_cons_succ, List.contains_cons, List.contains_nil, Bool.or_true, Bool.true_or, Bool.or_false, Bool.false_or, Nat.reduceBEq, *]; done) | fail)) only [hb, go_sem, Hold.p, HoldK.k, HoldL.K, HoldL.body, Nat.reduceBEq, Nat.reduceAdd, reduceIte]
    exact isSeq_c _ _
  simp (disch := (first | omega | assumption | (simp only [push_n, set_n, put_n, List.length_cons, List.length_nil, List.length_append, Nat.reduceAdd]; done) | (simp only [push_n, set_n, put_n, List.length_cons, List.length_nil, List.length_append]; omega) | (simp only [List.all_cons, List.all_nil, one_bool, one_int, one_str, one_ptr, one_nilptr, one_slice, one_eslice, one_nilslice, one_func, one_iface, one_niliface, Bool.and_true, Bool.true_and, List.getD_cons_zero, List.getD_cons_succ, List.contains_cons, List.contains_nil, Bool.or_true, Bool.true_or, Bool.or_false, Bool.false_or, Nat.reduceBEq, *]; done) | fail)) only [q, go_sem, Hold.p, HoldK.k, HoldL.K, HoldL.body, Nat.reduceBEq, Nat.reduceAdd, reduceIte]
  refine guard_pureF (v := .bool (portB s.win)) (fun hb => ?_) ?_
  · simp (disch := (first | omega | assumption | (simp only [push_n, set_n, put_n, List.length_cons, List.length_nil, List.length_append, Nat.reduceAdd]; done) | (simp only [push_n, set_n, put_n, List.length_cons, List.length_nil, List.length_append]; omega) | (simp only [List.all_cons, List.all_nil, one_bool, one_int, one_str, one_ptr, one_nilptr, one_slice, one_eslice, one_nilslice, one_func, one_iface, one_niliface, Bool.and_true, Bool.true_and, List.getD_cons_zero, List.getD_cons_succ, List.contains_cons, List.contains_nil, Bool.or_true, Bool.true_or, Bool.or_false, Bool.false_or, Nat.reduceBEq, *]; done) | fail)) only [hb, go_sem, Hold.p, HoldK.k, HoldL.K, HoldL.body, Nat.reduceBEq, Nat.reduceAdd, reduceIte]
    exact isPort_c _ _
  simp (disch := (first | omega | assumption | (simp only [push_n, set_n, put_n, List.length_cons, List.length_nil, List.length_append, Nat.reduceAdd]; done) | (simp only [push_n, set_n, put_n, List.length_cons, List.length_nil, List.length_append]; omega) | (simp only [List.all_cons, List.all_nil, one_bool, one_int, one_str, one_ptr, one_nilptr, one_slice, one_eslice, one_nilslice, one_func, one_iface, one_niliface, Bool.and_true, Bool.true_and, List.getD_cons_zero, List.getD_cons_succ, List.contains_cons, List.contains_nil, Bool.or_true, Bool.true_or, Bool.or_false, Bool.false_or, Nat.reduceBEq, *]; done) | fail)) only [q, go_sem, Hold.p, HoldK.k, HoldL.K, HoldL.body, Nat.reduceBEq, Nat.reduceAdd, reduceIte]
  refine guard_pureF (v := .bool (portB s.mss)) (fun hb => ?_) ?_
  · simp (disch := (first | omega | assumption | (simp only [push_n, set_n, put_n, List.length_cons, List.length_nil, List.length_append, Nat.reduceAdd]; done) | (simp only [push_n, set_n, put_n, List.length_cons, List.length_nil, List.length_append]; omega) | (simp only [List.all_cons, List.all_nil, one_bool, one_int, one_str, one_ptr, one_nilptr, one_slice, one_eslice, one_nilslice, one_func, one_iface, one_niliface, Bool.and_true, Bool.true_and, List.getD_cons_zero, List.getD_cons_succ, List.contains_cons, List.contains_nil, Bool.or_true, Bool.true_or, Bool.or_false, Bool.false_or, Nat.reduceBEq, *]; done) | fail)) only [hb, go_sem, Hold.p, HoldK.k, HoldL.K, HoldL.body, Nat.reduceBEq, Nat.reduceAdd, reduceIte]
    exact isPort_c _ _
  simp (disch := (first | omega | assumption | (simp only [push_n, set_n, put_n, List.length_cons, List.length_nil, List.length_append, Nat.reduceAdd]; done) | (simp only [push_n, set_n, put_n, List.length_cons, List.length_nil, List.length_append]; omega) | (simp only [List.all_cons, List.all_nil, one_bool, one_int, one_str, one_ptr, one_nilptr, one_slice, one_eslice, one_nilslice, one_func, one_iface, one_niliface, Bool.and_true, Bool.true_and, List.getD_cons_zero, List.getD_cons_succ, List.contains_cons, List.contains_nil, Bool.or_true, Bool.true_or, Bool.or_false, Bool.false_or, Nat.reduceBEq, *]; done) | fail)) only [q, v3, go_sem, Hold.p, HoldK.k, HoldL.K, HoldL.body, Nat.reduceBEq, Nat.reduceAdd, reduceIte]
  have hC : (!portB s.sp || !portB s.dp || !okAddr s.seq || !okAddr s.ack || decide (s.fl < 0) || decide (63 < s.fl) || !portB s.win || !portB s.mss || decide (s.sc < 0) || decide (14 < s.sc) || (!s.hs && !decide (s.sc = 0)) || decide (3 < (s.sacks.length : Int))) = !okHead s := by
    unfold okHead
    simp only [lt_not, Bool.not_and, Bool.not_or, Bool.not_not, Bool.or_assoc]
  rw [hC]
  refine test_of (fun hc => ?_) (fun hc => ?_)
  · simp (disch := (first | omega | assumption | (simp only [push_n, set_n, put_n, List.length_cons, List.length_nil, List.length_append, Nat.reduceAdd]; done) | (simp only [push_n, set_n, put_n, List.length_cons, List.length_nil, List.length_append]; omega) | (simp only [List.all_cons, List.all_nil, one_bool, one_int, one_str, one_ptr, one_nilptr, one_slice, one_eslice, one_nilslice, one_func, one_iface, one_niliface, Bool.and_true, Bool.true_and, List.getD_cons_zero, List.getD_cons_succ, List.contains_cons, List.contains_nil, Bool.or_true, Bool.true_or, Bool.or_false, Bool.false_or, Nat.reduceBEq, *]; done) | fail)) only [go_sem, Hold.p, HoldK.k, HoldL.K, HoldL.body, Nat.reduceBEq, Nat.reduceAdd, reduceIte]
    refine ⟨?_, e_g⟩
    unfold okSeg; simp at hc; rw [hc]; rfl
  · simp (disch := (first | omega | assumption | (simp only [push_n, set_n, put_n, List.length_cons, List.length_nil, List.length_append, Nat.reduceAdd]; done) | (simp only [push_n, set_n, put_n, List.length_cons, List.length_nil, List.length_append]; omega) | (simp only [List.all_cons, List.all_nil, one_bool, one_int, one_str, one_ptr, one_nilptr, one_slice, one_eslice, one_nilslice, one_func, one_iface, one_niliface, Bool.and_true, Bool.true_and, List.getD_cons_zero, List.getD_cons_succ, List.contains_cons, List.contains_nil, Bool.or_true, Bool.true_or, Bool.or_false, Bool.false_or, Nat.reduceBEq, *]; done) | fail)) only [q, v3, go_sem, Hold.p, HoldK.k, HoldL.K, HoldL.body, Nat.reduceBEq, Nat.reduceAdd, reduceIte]
    have hc' : okHead s = true := by simpa using hc
    have hl3 := okHead_len hc'
    refine loop_at (fun m e g' => ∃ k : Nat, m = s.sacks.length - k ∧ k ≤ s.sacks.length ∧ e 76 = vs ∧ e 77 = .int .i64 (s.sacks.length : Nat) ∧ e 78 = .int .i64 (k : Nat) ∧ (s.sacks.take k).all sackB = true ∧ Ext h g') s.sacks.length ?_ ?_
    · refine ⟨0, by omega, by omega, ?_⟩
      simp (disch := (first | omega | assumption | (simp only [push_n, set_n, put_n, List.length_cons, List.length_nil, List.length_append, Nat.reduceAdd]; done) | (simp only [push_n, set_n, put_n, List.length_cons, List.length_nil, List.length_append]; omega) | (simp only [List.all_cons, List.all_nil, one_bool, one_int, one_str, one_ptr, one_nilptr, one_slice, one_eslice, one_nilslice, one_func, one_iface, one_niliface, Bool.and_true, Bool.true_and, List.getD_cons_zero, List.getD_cons_succ, List.contains_cons, List.contains_nil, Bool.or_true, Bool.true_or, Bool.or_false, Bool.false_or, Nat.reduceBEq, *]; done) | fail)) only [go_sem, Hold.p, HoldK.k, HoldL.K, HoldL.body, Nat.reduceBEq, Nat.reduceAdd, reduceIte]
      exact ⟨rfl, by simp, e_g⟩
    · rintro m e g1 ⟨k, rfl, hk, i76, i77, i78, hall, E⟩
      have hle := E.le
      simp (disch := (first | omega | assumption | (simp only [push_n, set_n, put_n, List.length_cons, List.length_nil, List.length_append, Nat.reduceAdd]; done) | (simp only [push_n, set_n, put_n, List.length_cons, List.length_nil, List.length_append]; omega) | (simp only [List.all_cons, List.all_nil, one_bool, one_int, one_str, one_ptr, one_nilptr, one_slice, one_eslice, one_nilslice, one_func, one_iface, one_niliface, Bool.and_true, Bool.true_and, List.getD_cons_zero, List.getD_cons_succ, List.contains_cons, List.contains_nil, Bool.or_true, Bool.true_or, Bool.or_false, Bool.false_or, Nat.reduceBEq, *]; done) | fail)) only [i76, i77, i78, go_sem, Hold.p, HoldK.k, HoldL.K, HoldL.body, Nat.reduceBEq, Nat.reduceAdd, reduceIte]
      refine test_dec (fun hb => ?_) (fun hb => ?_)
      · have hk' : k < s.sacks.length := by omega
        obtain ⟨x, hx⟩ : ∃ x, s.sacks[k]? = some x := ⟨_, List.getElem?_eq_getElem hk'⟩
        have hsg : SlR g1 2 vs (sackRows s.sacks) := hs0.ext E
        obtain ⟨l, j, hia, hll, hrow⟩ := hsg.at (m := k) (sackRows_at hx) .i64
        have w1 : wr .i64 ((k : Int) + 1) = ((k + 1 : Nat) : Int) := by rw [wr64 _ (by omega)]; rfl
        simp (disch := (first | omega | assumption | (simp only [push_n, set_n, put_n, List.length_cons, List.length_nil, List.length_append, Nat.reduceAdd]; done) | (simp only [push_n, set_n, put_n, List.length_cons, List.length_nil, List.length_append]; omega) | (simp only [List.all_cons, List.all_nil, one_bool, one_int, one_str, one_ptr, one_nilptr, one_slice, one_eslice, one_nilslice, one_func, one_iface, one_niliface, Bool.and_true, Bool.true_and, List.getD_cons_zero, List.getD_cons_succ, List.contains_cons, List.contains_nil, Bool.or_true, Bool.true_or, Bool.or_false, Bool.false_or, Nat.reduceBEq, *]; done) | fail)) only [i76, i77, i78, hia, hrow, go_sem, Hold.p, HoldK.k, HoldL.K, HoldL.body, Nat.reduceBEq, Nat.reduceAdd, reduceIte]
        generalize hq_g2 : IH.push g1 (IObj.rows [[.int .i64 x.1, .int .i64 x.2]] 66 2 false) = g2
        have e_g2 : Ext g1 g2 := by rw [← hq_g2]; exact (Ext.refl _).push _
        have l_g2 : g2.n = g1.n + 1 := by rw [← hq_g2]; rfl
        have b2 : At g2 g1.n (IObj.rows [[.int .i64 x.1, .int .i64 x.2]] 66 2 false) := by rw [← hq_g2]; exact At.new _ _
        clear hq_g2
        have hsg := hsg.ext e_g2
        have q2 := b2.eq
        have E2 := E.trans e_g2
        have ht : s.sacks.take (k + 1) = s.sacks.take k ++ [x] := by rw [List.take_add_one, hx]; rfl
        refine callA_of (isSeq_c g2 x.1) ?_
        rintro r g3 ⟨rfl, rfl⟩
        simp (disch := (first | omega | assumption | (simp only [push_n, set_n, put_n, List.length_cons, List.length_nil, List.length_append, Nat.reduceAdd]; done) | (simp only [push_n, set_n, put_n, List.length_cons, List.length_nil, List.length_append]; omega) | (simp only [List.all_cons, List.all_nil, one_bool, one_int, one_str, one_ptr, one_nilptr, one_slice, one_eslice, one_nilslice, one_func, one_iface, one_niliface, Bool.and_true, Bool.true_and, List.getD_cons_zero, List.getD_cons_succ, List.contains_cons, List.contains_nil, Bool.or_true, Bool.true_or, Bool.or_false, Bool.false_or, Nat.reduceBEq, *]; done) | fail)) only [q2, i76, i77, i78, go_sem, Hold.p, HoldK.k, HoldL.K, HoldL.body, Nat.reduceBEq, Nat.reduceAdd, reduceIte]
        refine guard_pureF (v := .bool (okAddr x.2)) (fun hb => ?_) ?_
        · simp (disch := (first | omega | assumption | (simp only [push_n, set_n, put_n, List.length_cons, List.length_nil, List.length_append, Nat.reduceAdd]; done) | (simp only [push_n, set_n, put_n, List.length_cons, List.length_nil, List.length_append]; omega) | (simp only [List.all_cons, List.all_nil, one_bool, one_int, one_str, one_ptr, one_nilptr, one_slice, one_eslice, one_nilslice, one_func, one_iface, one_niliface, Bool.and_true, Bool.true_and, List.getD_cons_zero, List.getD_cons_succ, List.contains_cons, List.contains_nil, Bool.or_true, Bool.true_or, Bool.or_false, Bool.false_or, Nat.reduceBEq, *]; done) | fail)) only [hb, go_sem, Hold.p, HoldK.k, HoldL.K, HoldL.body, Nat.reduceBEq, Nat.reduceAdd, reduceIte]
          exact isSeq_c _ _
        simp (disch := (first | omega | assumption | (simp only [push_n, set_n, put_n, List.length_cons, List.length_nil, List.length_append, Nat.reduceAdd]; done) | (simp only [push_n, set_n, put_n, List.length_cons, List.length_nil, List.length_append]; omega) | (simp only [List.all_cons, List.all_nil, one_bool, one_int, one_str, one_ptr, one_nilptr, one_slice, one_eslice, one_nilslice, one_func, one_iface, one_niliface, Bool.and_true, Bool.true_and, List.getD_cons_zero, List.getD_cons_succ, List.contains_cons, List.contains_nil, Bool.or_true, Bool.true_or, Bool.or_false, Bool.false_or, Nat.reduceBEq, *]; done) | fail)) only [q2, i76, i77, i78, w1, go_sem, Hold.p, HoldK.k, HoldL.K, HoldL.body, Nat.reduceBEq, Nat.reduceAdd, reduceIte]
        refine test_of (fun hc => ?_) (fun hc => ?_)
        · simp (disch := (first | omega | assumption | (simp only [push_n, set_n, put_n, List.length_cons, List.length_nil, List.length_append, Nat.reduceAdd]; done) | (simp only [push_n, set_n, put_n, List.length_cons, List.length_nil, List.length_append]; omega) | (simp only [List.all_cons, List.all_nil, one_bool, one_int, one_str, one_ptr, one_nilptr, one_slice, one_eslice, one_nilslice, one_func, one_iface, one_niliface, Bool.and_true, Bool.true_and, List.getD_cons_zero, List.getD_cons_succ, List.contains_cons, List.contains_nil, Bool.or_true, Bool.true_or, Bool.or_false, Bool.false_or, Nat.reduceBEq, *]; done) | fail)) only [go_sem, Hold.p, HoldK.k, HoldL.K, HoldL.body, Nat.reduceBEq, Nat.reduceAdd, reduceIte]
          refine ⟨?_, E2⟩
          have hx' : sackB x = false := by unfold sackB; revert hc; cases okAddr x.1 <;> cases okAddr x.2 <;> simp
          have : s.sacks.all sackB = false := by
            rw [List.all_eq_false]
            exact ⟨x, List.mem_of_getElem? hx, by rw [hx']; simp⟩
          unfold okSeg; rw [this, Bool.and_false]
        · simp (disch := (first | omega | assumption | (simp only [push_n, set_n, put_n, List.length_cons, List.length_nil, List.length_append, Nat.reduceAdd]; done) | (simp only [push_n, set_n, put_n, List.length_cons, List.length_nil, List.length_append]; omega) | (simp only [List.all_cons, List.all_nil, one_bool, one_int, one_str, one_ptr, one_nilptr, one_slice, one_eslice, one_nilslice, one_func, one_iface, one_niliface, Bool.and_true, Bool.true_and, List.getD_cons_zero, List.getD_cons_succ, List.contains_cons, List.contains_nil, Bool.or_true, Bool.true_or, Bool.or_false, Bool.false_or, Nat.reduceBEq, *]; done) | fail)) only [q2, i76, i77, i78, w1, go_sem, Hold.p, HoldK.k, HoldL.K, HoldL.body, Nat.reduceBEq, Nat.reduceAdd, reduceIte]
          refine ⟨_, ?_, k + 1, rfl, by omega, rfl, ?_, E2⟩
          · omega
          · have hx' : sackB x = true := by unfold sackB; revert hc; cases okAddr x.1 <;> cases okAddr x.2 <;> simp
            rw [ht, List.all_append, hall]; simp [hx']
      · have hk' : k = s.sacks.length := by omega
        subst hk'
        simp (disch := (first | omega | assumption | (simp only [push_n, set_n, put_n, List.length_cons, List.length_nil, List.length_append, Nat.reduceAdd]; done) | (simp only [push_n, set_n, put_n, List.length_cons, List.length_nil, List.length_append]; omega) | (simp only [List.all_cons, List.all_nil, one_bool, one_int, one_str, one_ptr, one_nilptr, one_slice, one_eslice, one_nilslice, one_func, one_iface, one_niliface, Bool.and_true, Bool.true_and, List.getD_cons_zero, List.getD_cons_succ, List.contains_cons, List.contains_nil, Bool.or_true, Bool.true_or, Bool.or_false, Bool.false_or, Nat.reduceBEq, *]; done) | fail)) only [i76, i77, i78, go_sem, Hold.p, HoldK.k, HoldL.K, HoldL.body, Nat.reduceBEq, Nat.reduceAdd, reduceIte]
        rw [List.take_length] at hall
        refine ⟨?_, E⟩
        unfold okSeg; rw [hc', hall]; rfl

theorem specOkSegment_c (h : IH) (s : Seg) (vs vd : IV) (hs : SlR h 2 vs (sackRows s.sacks)) (hd : SlR h 1 vd (strRows s.data)) :
    ICalls Tryd.prog 28 [.agg (s.cells vs vd)] h fun r h' => r = .bool (okSeg s) ∧ Ext h h' := by
  refine icalls (.of ok28) (Nat.le_of_ble_eq_true rfl) ?_
  unfold c28 Seg.cells
  have hs0 := hs
  have v1 := hs.one
  have v2 := hd.one
  have v3 := hs.lenF
  rw [sackRows_len] at v3
  simp (disch := (first | omega | assumption | (simp only [push_n, set_n, put_n, List.length_cons, List.length_nil, List.length_append, Nat.reduceAdd]; done) | (simp only [push_n, set_n, put_n, List.length_cons, List.length_nil, List.length_append]; omega) | (simp only [List.all_cons, List.all_nil, one_bool, one_int, one_str, one_ptr, one_nilptr, one_slice, one_eslice, one_nilslice, one_func, one_iface, one_niliface, Bool.and_true, Bool.true_and, List.getD_cons_zero, List.getD_cons_succ, List.contains_cons, List.contains_nil, Bool.or_true, Bool.true_or, Bool.or_false, Bool.false_or, Nat.reduceBEq, *]; done) | fail)) only [v1, v2, go_sem, Hold.p, HoldK.k, HoldL.K, HoldL.body, Nat.reduceBEq, Nat.reduceAdd, reduceIte]
  generalize hq_g : IH.push h (IObj.rows [[IV.int .i64 s.sp, .int .i64 s.dp, .int .i64 s.seq, .int .i64 s.ack, .int .i64 s.fl, .int .i64 s.win, .int .i64 s.mss, .bool s.hs, .int .i64 s.sc, .bool s.so, vs, vd]] 31 12 false) = g
  have e_g : Ext h g := by rw [← hq_g]; exact (Ext.refl _).push _
  have l_g : g.n = h.n + 1 := by rw [← hq_g]; rfl
  have b : At g h.n (IObj.rows [[IV.int .i64 s.sp, .int .i64 s.dp, .int .i64 s.seq, .int .i64 s.ack, .int .i64 s.fl, .int .i64 s.win, .int .i64 s.mss, .bool s.hs, .int .i64 s.sc, .bool s.so, vs, vd]] 31 12 false) := by rw [← hq_g]; exact At.new _ _
  clear hq_g
  have hs := hs.ext e_g
  have q := b.eq
  try simp (disch := (first | omega | assumption | (simp only [push_n, set_n, put_n, List.length_cons, List.length_nil, List.length_append, Nat.reduceAdd]; done) | (simp only [push_n, set_n, put_n, List.length_cons, List.length_nil, List.length_append]; omega) | (simp only [List.all_cons, List.all_nil, one_bool, one_int, one_str, one_ptr, one_nilptr, one_slice, one_eslice, one_nilslice, one_func, one_iface, one_niliface, Bool.and_true, Bool.true_and, List.getD_cons_zero, List.getD_cons_succ, List.contains_cons, List.contains_nil, Bool.or_true, Bool.true_or, Bool.or_false, Bool.false_or, Nat.reduceBEq, *]; done) | fail)) only [q, go_sem, Hold.p, HoldK.k, HoldL.K, HoldL.body, Nat.reduceBEq, Nat.reduceAdd, reduceIte]
  refine callA_of (portOK_c g s.sp) ?_
  rintro r g' ⟨rfl, rfl⟩
  simp (disch := (first | omega | assumption | (simp only [push_n, set_n, put_n, List.length_cons, List.length_nil, List.length_append, Nat.reduceAdd]; done) | (simp only [push_n, set_n, put_n, List.length_cons, List.length_nil, List.length_append]; omega) | (simp only [List.all_cons, List.all_nil, one_bool, one_int, one_str, one_ptr, one_nilptr, one_slice, one_eslice, one_nilslice, one_func, one_iface, one_niliface, Bool.and_true, Bool.true_and, List.getD_cons_zero, List.getD_cons_succ, List.contains_cons, List.contains_nil, Bool.or_true, Bool.true_or, Bool.or_false, Bool.false_or, Nat.reduceBEq, *]; done) | fail)) only [q, go_sem, Hold.p, HoldK.k, HoldL.K, HoldL.body, Nat.reduceBEq, Nat.reduceAdd, reduceIte]
  refine guard_pureF (v := .bool (portB s.dp)) (fun hb => ?_) ?_
  · simp (disch := (first | omega | assumption | (simp only [push_n, set_n, put_n, List.length_cons, List.length_nil, List.length_append, Nat.reduceAdd]; done) | (simp only [push_n, set_n, put_n, List.length_cons, List.length_nil, List.length_append]; omega) | (simp only [List.all_cons, List.all_nil, one_bool, one_int, one_str, one_ptr, one_nilptr, one_slice, one_eslice, one_nilslice, one_func, one_iface, one_niliface, Bool.and_true, Bool.true_and, List.getD_cons_zero, List.getD_cons_succ, List.contains_cons, List.contains_nil, Bool.or_true, Bool.true_or, Bool.or_false, Bool.false_or, Nat.reduceBEq, *]; done) | fail)) only [hb, go_sem, Hold.p, HoldK.k, HoldL.K, HoldL.body, Nat.reduceBEq, Nat.reduceAdd, reduceIte]
    exact portOK_c _ _
  simp (disch := (first | omega | assumption | (simp only [push_n, set_n, put_n, List.length_cons, List.length_nil, List.length_append, Nat.reduceAdd]; done) | (simp only [push_n, set_n, put_n, List.length_cons, List.length_nil, List.length_append]; omega) | (simp only [List.all_cons, List.all_nil, one_bool, one_int, one_str, one_ptr, one_nilptr, one_slice, one_eslice, one_nilslice, one_func, one_iface, one_niliface, Bool.and_true, Bool.true_and, List.getD_cons_zero, List.getD_cons_succ, List.contains_cons, List.contains_nil, Bool.or_true, Bool.true_or, Bool.or_false, Bool.false_or, Nat.reduceBEq, *]; done) | fail)) only [q, go_sem, Hold.p, HoldK.k, HoldL.K, HoldL.body, Nat.reduceBEq, Nat.reduceAdd, reduceIte]
  refine guard_pureF (v := .bool (okAddr s.seq)) (fun hb => ?_) ?_
  · simp (disch := (first | omega | assumption | (simp only [push_n, set_n, put_n, List.length_cons, List.length_nil, List.length_append, Nat.reduceAdd]; done) | (simp only [push_n, set_n, put_n, List.length_cons, List.length_nil, List.length_append]; omega) | (simp only [List.all_cons, List.all_nil, one_bool, one_int, one_str, one_ptr, one_nilptr, one_slice, one_eslice, one_nilslice, one_func, one_iface, one_niliface, Bool.and_true, Bool.true_and, List.getD_cons_zero, List.getD_cons_succ, List.contains_cons, List.contains_nil, Bool.or_true, Bool.true_or, Bool.or_false, Bool.false_or, Nat.reduceBEq, *]; done) | fail)) only [hb, go_sem, Hold.p, HoldK.k, HoldL.K, HoldL.body, Nat.reduceBEq, Nat.reduceAdd, reduceIte]
    exact l11Seq_c _ _
  simp (disch := (first | omega | assumption | (simp only [push_n, set_n, put_n, List.length_cons, List.length_nil, List.length_append, Nat.reduceAdd]; done) | (simp only [push_n, set_n, put_n, List.length_cons, List.length_nil, List.length_append]; omega) | (simp only [List.all_cons, List.all_nil, one_bool, one_int, one_str, one_ptr, one_nilptr, one_slice, one_eslice, one_nilslice, one_func, one_iface, one_niliface, Bool.and_true, Bool.true_and, List.getD_cons_zero, List.getD_cons_succ, List.contains_cons, List.contains_nil, Bool.or_true, Bool.true_or, Bool.or_false, Bool.false_or, Nat.reduceBEq, *]; done) | fail)) only [q, go_sem, Hold.p, HoldK.k, HoldL.K, HoldL.body, Nat.reduceBEq, Nat.reduceAdd, reduceIte]
  refine guard_pureF (v := .bool (okAddr s.ack)) (fun hb => ?_) ?_
  · simp (disch := (first | omega | assumption | (simp only [push_n, set_n, put_n, List.length_cons, List.length_nil, List.length_append, Nat.reduceAdd]; done) | (simp only [push_n, set_n, put_n, List.length_cons, List.length_nil, List.length_append]; omega) | (simp only [List.all_cons, List.all_nil, one_bool, one_int, one_str, one_ptr, one_nilptr, one_slice, one_eslice, one_nilslice, one_func, one_iface, one_niliface, Bool.and_true, Bool.true_and, List.getD_cons_zero, List.getD_cons_succ, List.contains_cons, List.contains_nil, Bool.or_true, Bool.true_or, Bool.or_false, Bool.false_or, Nat.reduceBEq, *]; done) | fail)) only [hb, go_sem, Hold.p, HoldK.k, HoldL.K, HoldL.body, Nat.reduceBEq, Nat.reduceAdd, reduceIte]
    exact l11Seq_c _ _
  simp (disch := (first | omega | assumption | (simp only [push_n, set_n, put_n, List.length_cons, List.length_nil, List.length_append, Nat.reduceAdd]; done) | (simp only [push_n, set_n, put_n, List.length_cons, List.length_nil, List.length_append]; omega) | (simp only [List.all_cons, List.all_nil, one_bool, one_int, one_str, one_ptr, one_nilptr, one_slice, one_eslice, one_nilslice, one_func, one_iface, one_niliface, Bool.and_true, Bool.true_and, List.getD_cons_zero, List.getD_cons_succ, List.contains_cons, List.contains_nil, Bool.or_true, Bool.true_or, Bool.or_false, Bool.false_or, Nat.reduceBEq, *]; done) | fail)) only [q, go_sem, Hold.p, HoldK.k, HoldL.K, HoldL.body, Nat.reduceBEq, Nat.reduceAdd, reduceIte]
  refine guard_pureF (v := .bool (decide (0 ≤ s.fl) && decide (s.fl ≤ 63))) (fun hb => ?_) ?_
  · simp (disch := (first | omega | assumption | (simp only [push_n, set_n, put_n, List.length_cons, List.length_nil, List.length_append, Nat.reduceAdd]; done) | (simp only [push_n, set_n, put_n, List.length_cons, List.length_nil, List.length_append]; omega) | (simp only [List.all_cons, List.all_nil, one_bool, one_int, one_str, one_ptr, one_nilptr, one_slice, one_eslice, one_nilslice, one_func, one_iface, one_niliface, Bool.and_true, Bool.true_and, List.getD_cons_zero, List.getD_cons_succ, List.contains_cons, List.contains_nil, Bool.or_true, Bool.true_or, Bool.or_false, Bool.false_or, Nat.reduceBEq, *]; done) | fail)) only [hb, go_sem, Hold.p, HoldK.k, HoldL.K, HoldL.body, Nat.reduceBEq, Nat.reduceAdd, reduceIte]
    exact l01In_c _ _ _ _
  simp (disch := (first | omega | assumption | (simp only [push_n, set_n, put_n, List.length_cons, List.length_nil, List.length_append, Nat.reduceAdd]; done) | (simp only [push_n, set_n, put_n, List.length_cons, List.length_nil, List.length_append]; omega) | (simp only [List.all_cons, List.all_nil, one_bool, one_int, one_str, one_ptr, one_nilptr, one_slice, one_eslice, one_nilslice, one_func, one_iface, one_niliface, Bool.and_true, Bool.true_and, List.getD_cons_zero, List.getD_cons_succ, List.contains_cons, List.contains_nil, Bool.or_true, Bool.true_or, Bool.or_false, Bool.false_or, Nat.reduceBEq, *]; done) | fail)) only [q, go_sem, Hold.p, HoldK.k, HoldL.K, HoldL.body, Nat.reduceBEq, Nat.reduceAdd, reduceIte]
  refine guard_pureF (v := .bool (portB s.win)) (fun hb => ?_) ?_
  · simp (disch := (first | omega | assumption | (simp only [push_n, set_n, put_n, List.length_cons, List.length_nil, List.length_append, Nat.reduceAdd]; done) | (simp only [push_n, set_n, put_n, List.length_cons, List.length_nil, List.length_append]; omega) | (simp only [List.all_cons, List.all_nil, one_bool, one_int, one_str, one_ptr, one_nilptr, one_slice, one_eslice, one_nilslice, one_func, one_iface, one_niliface, Bool.and_true, Bool.true_and, List.getD_cons_zero, List.getD_cons_succ, List.contains_cons, List.contains_nil, Bool.or_true, Bool.true_or, Bool.or_false, Bool.false_or, Nat.reduceBEq, *]; done) | fail)) only [hb, go_sem, Hold.p, HoldK.k, HoldL.K, HoldL.body, Nat.reduceBEq, Nat.reduceAdd, reduceIte]
    exact l01In_c _ _ _ _
  simp (disch := (first | omega | assumption | (simp only [push_n, set_n, put_n, List.length_cons, List.length_nil, List.length_append, Nat.reduceAdd]; done) | (simp only [push_n, set_n, put_n, List.length_cons, List.length_nil, List.length_append]; omega) | (simp only [List.all_cons, List.all_nil, one_bool, one_int, one_str, one_ptr, one_nilptr, one_slice, one_eslice, one_nilslice, one_func, one_iface, one_niliface, Bool.and_true, Bool.true_and, List.getD_cons_zero, List.getD_cons_succ, List.contains_cons, List.contains_nil, Bool.or_true, Bool.true_or, Bool.or_false, Bool.false_or, Nat.reduceBEq, *]; done) | fail)) only [q, go_sem, Hold.p, HoldK.k, HoldL.K, HoldL.body, Nat.reduceBEq, Nat.reduceAdd, reduceIte]
  refine guard_pureF (v := .bool (portB s.mss)) (fun hb => ?_) ?_
  · simp (disch := (first | omega | assumption | (simp only [push_n, set_n, put_n, List.length_cons, List.length_nil, List.length_append, Nat.reduceAdd]; done) | (simp only [push_n, set_n, put_n, List.length_cons, List.length_nil, List.length_append]; omega) | (simp only [List.all_cons, List.all_nil, one_bool, one_int, one_str, one_ptr, one_nilptr, one_slice, one_eslice, one_nilslice, one_func, one_iface, one_niliface, Bool.and_true, Bool.true_and, List.getD_cons_zero, List.getD_cons_succ, List.contains_cons, List.contains_nil, Bool.or_true, Bool.true_or, Bool.or_false, Bool.false_or, Nat.reduceBEq, *]; done) | fail)) only [hb, go_sem, Hold.p, HoldK.k, HoldL.K, HoldL.body, Nat.reduceBEq, Nat.reduceAdd, reduceIte]
    exact l01In_c _ _ _ _
  simp (disch := (first | omega | assumption | (simp only [push_n, set_n, put_n, List.length_cons, List.length_nil, List.length_append, Nat.reduceAdd]; done) | (simp only [push_n, set_n, put_n, List.length_cons, List.length_nil, List.length_append]; omega) | (simp only [List.all_cons, List.all_nil, one_bool, one_int, one_str, one_ptr, one_nilptr, one_slice, one_eslice, one_nilslice, one_func, one_iface, one_niliface, Bool.and_true, Bool.true_and, List.getD_cons_zero, List.getD_cons_succ, List.contains_cons, List.contains_nil, Bool.or_true, Bool.true_or, Bool.or_false, Bool.false_or, Nat.reduceBEq, *]; done) | fail)) only [q, v3, go_sem, Hold.p, HoldK.k, HoldL.K, HoldL.body, Nat.reduceBEq, Nat.reduceAdd, reduceIte]
  refine guard_pureF (v := .bool (decide (0 ≤ s.sc) && decide (s.sc ≤ 14))) (fun hb => ?_) ?_
  · simp (disch := (first | omega | assumption | (simp only [push_n, set_n, put_n, List.length_cons, List.length_nil, List.length_append, Nat.reduceAdd]; done) | (simp only [push_n, set_n, put_n, List.length_cons, List.length_nil, List.length_append]; omega) | (simp only [List.all_cons, List.all_nil, one_bool, one_int, one_str, one_ptr, one_nilptr, one_slice, one_eslice, one_nilslice, one_func, one_iface, one_niliface, Bool.and_true, Bool.true_and, List.getD_cons_zero, List.getD_cons_succ, List.contains_cons, List.contains_nil, Bool.or_true, Bool.true_or, Bool.or_false, Bool.false_or, Nat.reduceBEq, *]; done) | fail)) only [hb, go_sem, Hold.p, HoldK.k, HoldL.K, HoldL.body, Nat.reduceBEq, Nat.reduceAdd, reduceIte]
    exact l01In_c _ _ _ _
  simp (disch := (first | omega | assumption | (simp only [push_n, set_n, put_n, List.length_cons, List.length_nil, List.length_append, Nat.reduceAdd]; done) | (simp only [push_n, set_n, put_n, List.length_cons, List.length_nil, List.length_append]; omega) | (simp only [List.all_cons, List.all_nil, one_bool, one_int, one_str, one_ptr, one_nilptr, one_slice, one_eslice, one_nilslice, one_func, one_iface, one_niliface, Bool.and_true, Bool.true_and, List.getD_cons_zero, List.getD_cons_succ, List.contains_cons, List.contains_nil, Bool.or_true, Bool.true_or, Bool.or_false, Bool.false_or, Nat.reduceBEq, *]; done) | fail)) only [q, v3, go_sem, Hold.p, HoldK.k, HoldL.K, HoldL.body, Nat.reduceBEq, Nat.reduceAdd, reduceIte]
  have hC : (!portB s.sp || !portB s.dp || !okAddr s.seq || !okAddr s.ack || !(decide (0 ≤ s.fl) && decide (s.fl ≤ 63)) || !portB s.win || !portB s.mss || !(decide (0 ≤ s.sc) && decide (s.sc ≤ 14)) || (!s.hs && !decide (s.sc = 0)) || decide (3 < (s.sacks.length : Int))) = !okHead s := by
    unfold okHead
    simp only [lt_not, Bool.not_and, Bool.not_or, Bool.not_not, Bool.or_assoc]
  rw [hC]
  refine test_of (fun hc => ?_) (fun hc => ?_)
  · simp (disch := (first | omega | assumption | (simp only [push_n, set_n, put_n, List.length_cons, List.length_nil, List.length_append, Nat.reduceAdd]; done) | (simp only [push_n, set_n, put_n, List.length_cons, List.length_nil, List.length_append]; omega) | (simp only [List.all_cons, List.all_nil, one_bool, one_int, one_str, one_ptr, one_nilptr, one_slice, one_eslice, one_nilslice, one_func, one_iface, one_niliface, Bool.and_true, Bool.true_and, List.getD_cons_zero, List.getD_cons_succ, List.contains_cons, List.contains_nil, Bool.or_true, Bool.true_or, Bool.or_false, Bool.false_or, Nat.reduceBEq, *]; done) | fail)) only [go_sem, Hold.p, HoldK.k, HoldL.K, HoldL.body, Nat.reduceBEq, Nat.reduceAdd, reduceIte]
    refine ⟨?_, e_g⟩
    unfold okSeg; simp at hc; rw [hc]; rfl
  · simp (disch := (first | omega | assumption | (simp only [push_n, set_n, put_n, List.length_cons, List.length_nil, List.length_append, Nat.reduceAdd]; done) | (simp only [push_n, set_n, put_n, List.length_cons, List.length_nil, List.length_append]; omega) | (simp only [List.all_cons, List.all_nil, one_bool, one_int, one_str, one_ptr, one_nilptr, one_slice, one_eslice, one_nilslice, one_func, one_iface, one_niliface, Bool.and_true, Bool.true_and, List.getD_cons_zero, List.getD_cons_succ, List.contains_cons, List.contains_nil, Bool.or_true, Bool.true_or, Bool.or_false, Bool.false_or, Nat.reduceBEq, *]; done) | fail)) only [q, v3, go_sem, Hold.p, HoldK.k, HoldL.K, HoldL.body, Nat.reduceBEq, Nat.reduceAdd, reduceIte]
    have hc' : okHead s = true := by simpa using hc
    have hl3 := okHead_len hc'
    refine loop_at (fun m e g2 => ∃ k : Nat, m = s.sacks.length - k ∧ k ≤ s.sacks.length ∧ e 1 = .ptr h.n 0 0 ∧ e 3 = .int .i64 (k : Nat) ∧ (s.sacks.take k).all sackB = true ∧ g2 = g') s.sacks.length ?_ ?_
    · refine ⟨0, by omega, by omega, ?_⟩
      simp (disch := (first | omega | assumption | (simp only [push_n, set_n, put_n, List.length_cons, List.length_nil, List.length_append, Nat.reduceAdd]; done) | (simp only [push_n, set_n, put_n, List.length_cons, List.length_nil, List.length_append]; omega) | (simp only [List.all_cons, List.all_nil, one_bool, one_int, one_str, one_ptr, one_nilptr, one_slice, one_eslice, one_nilslice, one_func, one_iface, one_niliface, Bool.and_true, Bool.true_and, List.getD_cons_zero, List.getD_cons_succ, List.contains_cons, List.contains_nil, Bool.or_true, Bool.true_or, Bool.or_false, Bool.false_or, Nat.reduceBEq, *]; done) | fail)) only [go_sem, Hold.p, HoldK.k, HoldL.K, HoldL.body, Nat.reduceBEq, Nat.reduceAdd, reduceIte]
      exact ⟨by simp, rfl⟩
    · rintro m e g1 ⟨k, rfl, hk, i1, i3, hall, rfl⟩
      simp (disch := (first | omega | assumption | (simp only [push_n, set_n, put_n, List.length_cons, List.length_nil, List.length_append, Nat.reduceAdd]; done) | (simp only [push_n, set_n, put_n, List.length_cons, List.length_nil, List.length_append]; omega) | (simp only [List.all_cons, List.all_nil, one_bool, one_int, one_str, one_ptr, one_nilptr, one_slice, one_eslice, one_nilslice, one_func, one_iface, one_niliface, Bool.and_true, Bool.true_and, List.getD_cons_zero, List.getD_cons_succ, List.contains_cons, List.contains_nil, Bool.or_true, Bool.true_or, Bool.or_false, Bool.false_or, Nat.reduceBEq, *]; done) | fail)) only [i1, i3, q, v3, go_sem, Hold.p, HoldK.k, HoldL.K, HoldL.body, Nat.reduceBEq, Nat.reduceAdd, reduceIte]
      refine test_dec (fun hb => ?_) (fun hb => ?_)
      · have hk' : k < s.sacks.length := by omega
        obtain ⟨x, hx⟩ : ∃ x, s.sacks[k]? = some x := ⟨_, List.getElem?_eq_getElem hk'⟩
        obtain ⟨l, j, hia, hll, hrow⟩ := hs.at (m := k) (sackRows_at hx) .i64
        have hcl := cellO_row hrow
        have w1 : wr .i64 ((k : Int) + 1) = ((k + 1 : Nat) : Int) := by rw [wr64 _ (by omega)]; rfl
        have ht : s.sacks.take (k + 1) = s.sacks.take k ++ [x] := by rw [List.take_add_one, hx]; rfl
        simp (disch := (first | omega | assumption | (simp only [push_n, set_n, put_n, List.length_cons, List.length_nil, List.length_append, Nat.reduceAdd]; done) | (simp only [push_n, set_n, put_n, List.length_cons, List.length_nil, List.length_append]; omega) | (simp only [List.all_cons, List.all_nil, one_bool, one_int, one_str, one_ptr, one_nilptr, one_slice, one_eslice, one_nilslice, one_func, one_iface, one_niliface, Bool.and_true, Bool.true_and, List.getD_cons_zero, List.getD_cons_succ, List.contains_cons, List.contains_nil, Bool.or_true, Bool.true_or, Bool.or_false, Bool.false_or, Nat.reduceBEq, *]; done) | fail)) only [i1, i3, q, hia, hcl, go_sem, Hold.p, HoldK.k, HoldL.K, HoldL.body, Nat.reduceBEq, Nat.reduceAdd, reduceIte]
        refine callA_of (l11Seq_c _ x.1) ?_
        rintro r g3 ⟨rfl, rfl⟩
        simp (disch := (first | omega | assumption | (simp only [push_n, set_n, put_n, List.length_cons, List.length_nil, List.length_append, Nat.reduceAdd]; done) | (simp only [push_n, set_n, put_n, List.length_cons, List.length_nil, List.length_append]; omega) | (simp only [List.all_cons, List.all_nil, one_bool, one_int, one_str, one_ptr, one_nilptr, one_slice, one_eslice, one_nilslice, one_func, one_iface, one_niliface, Bool.and_true, Bool.true_and, List.getD_cons_zero, List.getD_cons_succ, List.contains_cons, List.contains_nil, Bool.or_true, Bool.true_or, Bool.or_false, Bool.false_or, Nat.reduceBEq, *]; done) | fail)) only [i1, i3, q, hia, hcl, go_sem, Hold.p, HoldK.k, HoldL.K, HoldL.body, Nat.reduceBEq, Nat.reduceAdd, reduceIte]
        refine guard_pureF (v := .bool (okAddr x.2)) (fun hb => ?_) ?_
        · simp (disch := (first | omega | assumption | (simp only [push_n, set_n, put_n, List.length_cons, List.length_nil, List.length_append, Nat.reduceAdd]; done) | (simp only [push_n, set_n, put_n, List.length_cons, List.length_nil, List.length_append]; omega) | (simp only [List.all_cons, List.all_nil, one_bool, one_int, one_str, one_ptr, one_nilptr, one_slice, one_eslice, one_nilslice, one_func, one_iface, one_niliface, Bool.and_true, Bool.true_and, List.getD_cons_zero, List.getD_cons_succ, List.contains_cons, List.contains_nil, Bool.or_true, Bool.true_or, Bool.or_false, Bool.false_or, Nat.reduceBEq, *]; done) | fail)) only [hb, go_sem, Hold.p, HoldK.k, HoldL.K, HoldL.body, Nat.reduceBEq, Nat.reduceAdd, reduceIte]
          exact l11Seq_c _ _
        simp (disch := (first | omega | assumption | (simp only [push_n, set_n, put_n, List.length_cons, List.length_nil, List.length_append, Nat.reduceAdd]; done) | (simp only [push_n, set_n, put_n, List.length_cons, List.length_nil, List.length_append]; omega) | (simp only [List.all_cons, List.all_nil, one_bool, one_int, one_str, one_ptr, one_nilptr, one_slice, one_eslice, one_nilslice, one_func, one_iface, one_niliface, Bool.and_true, Bool.true_and, List.getD_cons_zero, List.getD_cons_succ, List.contains_cons, List.contains_nil, Bool.or_true, Bool.true_or, Bool.or_false, Bool.false_or, Nat.reduceBEq, *]; done) | fail)) only [i1, i3, w1, go_sem, Hold.p, HoldK.k, HoldL.K, HoldL.body, Nat.reduceBEq, Nat.reduceAdd, reduceIte]
        refine test_of (fun hc => ?_) (fun hc => ?_)
        · simp (disch := (first | omega | assumption | (simp only [push_n, set_n, put_n, List.length_cons, List.length_nil, List.length_append, Nat.reduceAdd]; done) | (simp only [push_n, set_n, put_n, List.length_cons, List.length_nil, List.length_append]; omega) | (simp only [List.all_cons, List.all_nil, one_bool, one_int, one_str, one_ptr, one_nilptr, one_slice, one_eslice, one_nilslice, one_func, one_iface, one_niliface, Bool.and_true, Bool.true_and, List.getD_cons_zero, List.getD_cons_succ, List.contains_cons, List.contains_nil, Bool.or_true, Bool.true_or, Bool.or_false, Bool.false_or, Nat.reduceBEq, *]; done) | fail)) only [go_sem, Hold.p, HoldK.k, HoldL.K, HoldL.body, Nat.reduceBEq, Nat.reduceAdd, reduceIte]
          refine ⟨?_, e_g⟩
          have hx' : sackB x = false := by unfold sackB; revert hc; cases okAddr x.1 <;> cases okAddr x.2 <;> simp
          have : s.sacks.all sackB = false := by
            rw [List.all_eq_false]
            exact ⟨x, List.mem_of_getElem? hx, by rw [hx']; simp⟩
          unfold okSeg; rw [this, Bool.and_false]
        · simp (disch := (first | omega | assumption | (simp only [push_n, set_n, put_n, List.length_cons, List.length_nil, List.length_append, Nat.reduceAdd]; done) | (simp only [push_n, set_n, put_n, List.length_cons, List.length_nil, List.length_append]; omega) | (simp only [List.all_cons, List.all_nil, one_bool, one_int, one_str, one_ptr, one_nilptr, one_slice, one_eslice, one_nilslice, one_func, one_iface, one_niliface, Bool.and_true, Bool.true_and, List.getD_cons_zero, List.getD_cons_succ, List.contains_cons, List.contains_nil, Bool.or_true, Bool.true_or, Bool.or_false, Bool.false_or, Nat.reduceBEq, *]; done) | fail)) only [i1, i3, w1, go_sem, Hold.p, HoldK.k, HoldL.K, HoldL.body, Nat.reduceBEq, Nat.reduceAdd, reduceIte]
          refine ⟨_, ?_, k + 1, rfl, by omega, rfl, ?_⟩
          · omega
          · have hx' : sackB x = true := by unfold sackB; revert hc; cases okAddr x.1 <;> cases okAddr x.2 <;> simp
            rw [ht, List.all_append, hall]; simp [hx']
      · have hk' : k = s.sacks.length := by omega
        subst hk'
        simp (disch := (first | omega | assumption | (simp only [push_n, set_n, put_n, List.length_cons, List.length_nil, List.length_append, Nat.reduceAdd]; done) | (simp only [push_n, set_n, put_n, List.length_cons, List.length_nil, List.length_append]; omega) | (simp only [List.all_cons, List.all_nil, one_bool, one_int, one_str, one_ptr, one_nilptr, one_slice, one_eslice, one_nilslice, one_func, one_iface, one_niliface, Bool.and_true, Bool.true_and, List.getD_cons_zero, List.getD_cons_succ, List.contains_cons, List.contains_nil, Bool.or_true, Bool.true_or, Bool.or_false, Bool.false_or, Nat.reduceBEq, *]; done) | fail)) only [i1, i3, go_sem, Hold.p, HoldK.k, HoldL.K, HoldL.body, Nat.reduceBEq, Nat.reduceAdd, reduceIte]
        rw [List.take_length] at hall
        refine ⟨?_, e_g⟩
        unfold okSeg; rw [hc', hall]; rfl
end
end Go.Proofs.YtaolhgjnlmaooaaDoor

set_option maxRecDepth 20000
namespace Go.Proofs.YtaolhgjnlmaooaaDoor
open Go Go.IW
section
attribute [local go_sem] List.getElem?_cons_zero List.getElem?_cons_succ Option.bind_some List.map_cons List.map_nil Nat.zero_add if_true List.getD_cons_zero List.getD_cons_succ List.contains_cons List.contains_nil Bool.or_true Bool.true_or Bool.or_false Bool.false_or Bool.not_true Bool.not_false true_and and_true rowA_whole mid_get stO_mid rowO_rows cellO_rows push_n set_n push_at push_old set_here set_there set_pushT set_pushN set_set upd_ne Nat.add_assoc Nat.add_zero stO_1s stO_ws boxA_s List.all_cons List.all_nil one_bool one_int one_str one_ptr one_nilptr one_slice one_eslice one_nilslice one_func one_iface one_niliface Bool.and_true Bool.and_self List.length_cons List.length_nil Nat.one_ne_zero Nat.succ_ne_zero if_false List.set_cons_zero List.set_cons_succ lay_nil lay_1 lay_w Option.map_some

/-! A segment's text. -/
def numI (n : Int) : List UInt8 := Lib.decDigits n.toNat
/-- The letter of flag i (SFRPAU). -/
def flLet : List (Nat × UInt8) := [(1, 83), (0, 70), (2, 82), (3, 80), (4, 65), (5, 85)]
def flHas (n : Int) (k : Nat) : Bool := decide (n.toNat / 2 ^ k % 2 = 1)
def flT (n : Int) (l : List (Nat × UInt8)) : List UInt8 := l.flatMap fun x => if flHas n x.1 = true then [x.2] else []
def flW (n : Int) : List UInt8 := if n = 0 then [45] else flT n flLet
def sackT (x : Int × Int) : List UInt8 := numI x.1 ++ [45] ++ numI x.2
def mssW : List UInt8 := [109, 115, 115]
def scaleW : List UInt8 := [115, 99, 97, 108, 101]
def sackokW : List UInt8 := [115, 97, 99, 107, 111, 107]
def sackW : List UInt8 := [115, 97, 99, 107]
def dataW : List UInt8 := [100, 97, 116, 97]
def w0 (s : Seg) : List (List UInt8) := [numI s.sp ++ [62] ++ numI s.dp, flW s.fl, numI s.seq, numI s.ack, numI s.win]
def w1 (s : Seg) : List (List UInt8) := if s.mss = 0 then [] else [mssW, numI s.mss]
def w2 (s : Seg) : List (List UInt8) := if s.hs = true then [scaleW, numI s.sc] else []
def w3 (s : Seg) : List (List UInt8) := if s.so = true then [sackokW] else []
def w4 (l : List (Int × Int)) : List (List UInt8) := l.flatMap fun x => [sackW, sackT x]
def w5 (s : Seg) : List (List UInt8) := if s.data = [] then [] else [dataW, s.data.flatMap hex2]
def segW (s : Seg) : List (List UInt8) := w0 s ++ w1 s ++ w2 s ++ w3 s ++ w4 s.sacks ++ w5 s
def showSeg (s : Seg) : List UInt8 × Int := if okSeg s = true ∧ s.data.length ≤ 4000 then (Lib.join (segW s) [32], 0) else ([], 1)

/-- Words with a blank ahead of each. -/
def tl (ws : List (List UInt8)) : List UInt8 := ws.flatMap fun w => 32 :: w
theorem tl_app (a b : List (List UInt8)) : tl (a ++ b) = tl a ++ tl b := by simp [tl]
theorem join_tl (w : List UInt8) (ws : List (List UInt8)) : Lib.join (w :: ws) [32] = w ++ tl ws := by
  unfold Lib.join tl
  induction ws generalizing w with
  | nil => simp [List.intercalate]
  | cons a r ih =>
    rw [List.intercalate_cons_cons, ih]
    simp
theorem join_app (w : List UInt8) (ws vs : List (List UInt8)) : Lib.join (w :: ws ++ vs) [32] = Lib.join (w :: ws) [32] ++ tl vs := by
  rw [List.cons_append, join_tl, join_tl, tl_app, List.append_assoc]
theorem numI_len {n : Int} (h : n ≤ 4294967295) : (numI n).length ≤ 20 := dec_le _ (by omega)
theorem numI_c (h : IH) {n : Int} (h0 : 0 ≤ n) (h1 : n ≤ 4294967295) : ICalls Tryd.prog 29 [.int .i64 n] h fun r h' => r = .str (numI n) ∧ Ext h h' := by
  obtain ⟨m, rfl⟩ := Int.eq_ofNat_of_zero_le h0
  exact l02Dec_c m h (by omega)
theorem num_c2 (h : IH) {n : Int} (h0 : 0 ≤ n) (h1 : n ≤ 4294967295) : ICalls Tryd.prog 56 [.int .i64 n, .int .i64 10] h fun r h' => r = .str (numI n) ∧ h' = h := by
  refine (formatInt_calls (P := Tryd.prog) (f := 56) (Go.Proofs.enters_of Tryd.func56 (by kernel_rfl) rfl) (fun n h0 h1 w ht => Tryd.strconv_FormatInt_10 n h0 h1 w ht) (by kernel_rfl) (by simp [tabs]) h (by omega) (by omega)).mono fun r h' ⟨e1, e2⟩ => ⟨?_, e2⟩
  rw [e1]
  obtain ⟨m, rfl⟩ := Int.eq_ofNat_of_zero_le h0
  rw [itoa_nn]; rfl
theorem implNum_c (h : IH) {n : Int} (h0 : 0 ≤ n) (h1 : n ≤ 4294967295) : ICalls Tryd.prog 36 [.int .i64 n] h fun r h' => r = .str (numI n) ∧ h' = h := by
  refine icalls (.of ok36) (Nat.le_of_ble_eq_true rfl) ?_
  unfold c36
  simp (disch := (first | omega | assumption | (simp only [push_n, set_n, put_n, List.length_cons, List.length_nil, List.length_append, Nat.reduceAdd]; done) | (simp only [push_n, set_n, put_n, List.length_cons, List.length_nil, List.length_append]; omega) | (simp only [List.all_cons, List.all_nil, one_bool, one_int, one_str, one_ptr, one_nilptr, one_slice, one_eslice, one_nilslice, one_func, one_iface, one_niliface, Bool.and_true, Bool.true_and, List.getD_cons_zero, List.getD_cons_succ, List.contains_cons, List.contains_nil, Bool.or_true, Bool.true_or, Bool.or_false, Bool.false_or, Nat.reduceBEq, *]; done) | fail)) only [go_sem, Hold.p, HoldK.k, HoldL.K, HoldL.body, Nat.reduceBEq, Nat.reduceAdd, reduceIte]
  refine callA_of (num_c2 h h0 h1) ?_
  rintro r h' ⟨rfl, rfl⟩
  simp (disch := (first | omega | assumption | (simp only [push_n, set_n, put_n, List.length_cons, List.length_nil, List.length_append, Nat.reduceAdd]; done) | (simp only [push_n, set_n, put_n, List.length_cons, List.length_nil, List.length_append]; omega) | (simp only [List.all_cons, List.all_nil, one_bool, one_int, one_str, one_ptr, one_nilptr, one_slice, one_eslice, one_nilslice, one_func, one_iface, one_niliface, Bool.and_true, Bool.true_and, List.getD_cons_zero, List.getD_cons_succ, List.contains_cons, List.contains_nil, Bool.or_true, Bool.true_or, Bool.or_false, Bool.false_or, Nat.reduceBEq, *]; done) | fail)) only [go_sem, Hold.p, HoldK.k, HoldL.K, HoldL.body, Nat.reduceBEq, Nat.reduceAdd, reduceIte]
end
end Go.Proofs.YtaolhgjnlmaooaaDoor

set_option maxRecDepth 20000
namespace Go.Proofs.YtaolhgjnlmaooaaDoor
open Go Go.IW
section
attribute [local go_sem] List.getElem?_cons_zero List.getElem?_cons_succ Option.bind_some List.map_cons List.map_nil Nat.zero_add if_true List.getD_cons_zero List.getD_cons_succ List.contains_cons List.contains_nil Bool.or_true Bool.true_or Bool.or_false Bool.false_or Bool.not_true Bool.not_false true_and and_true rowA_whole mid_get stO_mid rowO_rows cellO_rows push_n set_n push_at push_old set_here set_there set_pushT set_pushN set_set upd_ne Nat.add_assoc Nat.add_zero stO_1s stO_ws boxA_s List.all_cons List.all_nil one_bool one_int one_str one_ptr one_nilptr one_slice one_eslice one_nilslice one_func one_iface one_niliface Bool.and_true Bool.and_self List.length_cons List.length_nil Nat.one_ne_zero Nat.succ_ne_zero if_false List.set_cons_zero List.set_cons_succ lay_nil lay_1 lay_w Option.map_some

theorem okSeg_parts {s : Seg} (h : okSeg s = true) : (0 ≤ s.sp ∧ s.sp ≤ 65535) ∧ (0 ≤ s.dp ∧ s.dp ≤ 65535) ∧ (0 ≤ s.seq ∧ s.seq ≤ 4294967295) ∧ (0 ≤ s.ack ∧ s.ack ≤ 4294967295) ∧ (0 ≤ s.fl ∧ s.fl ≤ 63) ∧ (0 ≤ s.win ∧ s.win ≤ 65535) ∧ (0 ≤ s.mss ∧ s.mss ≤ 65535) ∧ (0 ≤ s.sc ∧ s.sc ≤ 14) ∧ (s.hs = true ∨ s.sc = 0) ∧ s.sacks.length ≤ 3 ∧ ∀ x ∈ s.sacks, (0 ≤ x.1 ∧ x.1 ≤ 4294967295) ∧ 0 ≤ x.2 ∧ x.2 ≤ 4294967295 := by
  unfold okSeg okHead portB okAddr at h
  simp only [Bool.and_eq_true, Bool.or_eq_true, decide_eq_true_eq, List.all_eq_true] at h
  obtain ⟨⟨⟨⟨⟨⟨⟨⟨⟨⟨h1, h2⟩, h3⟩, h4⟩, h5⟩, h6⟩, h7⟩, h8⟩, h9⟩, h10⟩, h11⟩ := h
  refine ⟨h1, h2, h3, h4, h5, h6, h7, h8, h9, by omega, fun x hx => ?_⟩
  have := h11 x hx
  unfold sackB okAddr at this
  simp only [Bool.and_eq_true, decide_eq_true_eq] at this
  exact this

def bitRows : List (List IV) := [[.int .i64 2], [.int .i64 1], [.int .i64 4], [.int .i64 8], [.int .i64 16], [.int .i64 32]]
theorem bitRows_at (k : Nat) (hk : k < 6) : bitRows[k]? = some [.int .i64 ((2 ^ (flLet.getD k default).1 : Nat) : Int)] := by
  match k, hk with
  | 0, _ | 1, _ | 2, _ | 3, _ | 4, _ | 5, _ => rfl
  | _ + 6, h => omega
theorem l11Bit_c (h : IH) (k : Nat) (hk : k < 6) : ICalls Tryd.prog 31 [.int .i64 k] h fun r h' => r = .int .i64 ((2 ^ (flLet.getD k default).1 : Nat) : Int) ∧ Ext h h' := by
  refine icalls (.of ok31) (Nat.le_of_ble_eq_true rfl) ?_
  unfold c31
  simp (disch := (first | omega | assumption | (simp only [push_n, set_n, put_n, List.length_cons, List.length_nil, List.length_append, Nat.reduceAdd]; done) | (simp only [push_n, set_n, put_n, List.length_cons, List.length_nil, List.length_append]; omega) | (simp only [List.all_cons, List.all_nil, one_bool, one_int, one_str, one_ptr, one_nilptr, one_slice, one_eslice, one_nilslice, one_func, one_iface, one_niliface, Bool.and_true, Bool.true_and, List.getD_cons_zero, List.getD_cons_succ, List.contains_cons, List.contains_nil, Bool.or_true, Bool.true_or, Bool.or_false, Bool.false_or, Nat.reduceBEq, *]; done) | fail)) only [go_sem, Hold.p, HoldK.k, HoldL.K, HoldL.body, Nat.reduceBEq, Nat.reduceAdd, reduceIte]
  refine bslA_of (rows := bitRows) (by decide) rfl (by decide) ?_
  simp (disch := (first | omega | assumption | (simp only [push_n, set_n, put_n, List.length_cons, List.length_nil, List.length_append, Nat.reduceAdd]; done) | (simp only [push_n, set_n, put_n, List.length_cons, List.length_nil, List.length_append]; omega) | (simp only [List.all_cons, List.all_nil, one_bool, one_int, one_str, one_ptr, one_nilptr, one_slice, one_eslice, one_nilslice, one_func, one_iface, one_niliface, Bool.and_true, Bool.true_and, List.getD_cons_zero, List.getD_cons_succ, List.contains_cons, List.contains_nil, Bool.or_true, Bool.true_or, Bool.or_false, Bool.false_or, Nat.reduceBEq, *]; done) | fail)) only [go_sem, Hold.p, HoldK.k, HoldL.K, HoldL.body, Nat.reduceBEq, Nat.reduceAdd, reduceIte]
  generalize hq_g : IH.push h (IObj.rows bitRows 2 1 false) = g
  have e_g : Ext h g := by rw [← hq_g]; exact (Ext.refl _).push _
  have l_g : g.n = h.n + 1 := by rw [← hq_g]; rfl
  have b : At g h.n (IObj.rows bitRows 2 1 false) := by rw [← hq_g]; exact At.new _ _
  clear hq_g
  have sl : SlR g 1 (.slice h.n 0 6) bitRows := SlR.whole b.eq rfl b.lt
  obtain ⟨l, j, hia, hll, hrow⟩ := sl.at (bitRows_at k hk) .i64
  have hc := cellO_row hrow
  simp (disch := (first | omega | assumption | (simp only [push_n, set_n, put_n, List.length_cons, List.length_nil, List.length_append, Nat.reduceAdd]; done) | (simp only [push_n, set_n, put_n, List.length_cons, List.length_nil, List.length_append]; omega) | (simp only [List.all_cons, List.all_nil, one_bool, one_int, one_str, one_ptr, one_nilptr, one_slice, one_eslice, one_nilslice, one_func, one_iface, one_niliface, Bool.and_true, Bool.true_and, List.getD_cons_zero, List.getD_cons_succ, List.contains_cons, List.contains_nil, Bool.or_true, Bool.true_or, Bool.or_false, Bool.false_or, Nat.reduceBEq, *]; done) | fail)) only [hia, hc, go_sem, Hold.p, HoldK.k, HoldL.K, HoldL.body, Nat.reduceBEq, Nat.reduceAdd, reduceIte]
  exact e_g
theorem and_bit : ∀ (n : Fin 64) (k : Fin 6), IW.bits .and .i64 (n.val : Int) ((2 ^ k.val : Nat) : Int) = if n.val / 2 ^ k.val % 2 = 1 then ((2 ^ k.val : Nat) : Int) else 0 := by decide +kernel
theorem shr_bit : ∀ (n : Fin 64) (k : Fin 6), IW.bits .and .i64 ((n.val : Int).fdiv (2 ^ k.val)) 1 = if n.val / 2 ^ k.val % 2 = 1 then 1 else 0 := by decide +kernel
theorem l11Has_c (h : IH) (s : Seg) (vs vd : IV) (k : Nat) (hk : k < 6) (hf : 0 ≤ s.fl ∧ s.fl ≤ 63) (v1 : vs.one = true) (v2 : vd.one = true) :
    ICalls Tryd.prog 30 [.agg [.int .i64 s.sp, .int .i64 s.dp, .int .i64 s.seq, .int .i64 s.ack, .int .i64 s.fl, .int .i64 s.win, .int .i64 s.mss, .bool s.hs, .int .i64 s.sc, .bool s.so, vs, vd], .int .i64 ((2 ^ k : Nat) : Int)] h fun r h' => r = .bool (flHas s.fl k) ∧ Ext h h' := by
  refine icalls (.of ok30) (Nat.le_of_ble_eq_true rfl) ?_
  unfold c30
  obtain ⟨m, hm⟩ := Int.eq_ofNat_of_zero_le hf.1
  have hb : ibin .and (.int .i64 s.fl) (.int .i64 ((2 ^ k : Nat) : Int)) = some (.int .i64 (if m / 2 ^ k % 2 = 1 then ((2 ^ k : Nat) : Int) else 0)) := by
    have := and_bit ⟨m, by omega⟩ ⟨k, hk⟩
    simp only at this
    unfold ibin
    simp only [if_true, hm]
    rw [this]
  have hd : (!decide ((if m / 2 ^ k % 2 = 1 then ((2 ^ k : Nat) : Int) else 0) = 0)) = flHas s.fl k := by
    unfold flHas
    have h2 : ((2 ^ k : Nat) : Int) ≠ 0 := by
      have := Nat.two_pow_pos k
      omega
    rw [hm]
    by_cases hc : m / 2 ^ k % 2 = 1
    · rw [if_pos hc, decide_eq_false h2]
      simp [hc]
    · rw [if_neg hc]
      simp [hc]
  simp (disch := (first | omega | assumption | (simp only [push_n, set_n, put_n, List.length_cons, List.length_nil, List.length_append, Nat.reduceAdd]; done) | (simp only [push_n, set_n, put_n, List.length_cons, List.length_nil, List.length_append]; omega) | (simp only [List.all_cons, List.all_nil, one_bool, one_int, one_str, one_ptr, one_nilptr, one_slice, one_eslice, one_nilslice, one_func, one_iface, one_niliface, Bool.and_true, Bool.true_and, List.getD_cons_zero, List.getD_cons_succ, List.contains_cons, List.contains_nil, Bool.or_true, Bool.true_or, Bool.or_false, Bool.false_or, Nat.reduceBEq, *]; done) | fail)) only [v1, v2, hb, hd, go_sem, Hold.p, HoldK.k, HoldL.K, HoldL.body, Nat.reduceBEq, Nat.reduceAdd, reduceIte]
  exact (Ext.refl _).push _
end
end Go.Proofs.YtaolhgjnlmaooaaDoor

set_option maxRecDepth 20000
namespace Go.Proofs.YtaolhgjnlmaooaaDoor
open Go Go.IW
section
attribute [local go_sem] List.getElem?_cons_zero List.getElem?_cons_succ Option.bind_some List.map_cons List.map_nil Nat.zero_add if_true List.getD_cons_zero List.getD_cons_succ List.contains_cons List.contains_nil Bool.or_true Bool.true_or Bool.or_false Bool.false_or Bool.not_true Bool.not_false true_and and_true rowA_whole mid_get stO_mid rowO_rows cellO_rows push_n set_n push_at push_old set_here set_there set_pushT set_pushN set_set upd_ne Nat.add_assoc Nat.add_zero stO_1s stO_ws boxA_s List.all_cons List.all_nil one_bool one_int one_str one_ptr one_nilptr one_slice one_eslice one_nilslice one_func one_iface one_niliface Bool.and_true Bool.and_self List.length_cons List.length_nil Nat.one_ne_zero Nat.succ_ne_zero if_false List.set_cons_zero List.set_cons_succ lay_nil lay_1 lay_w Option.map_some

abbrev segObj (s : Seg) (vs vd : IV) : IObj := .rows [[.int .i64 s.sp, .int .i64 s.dp, .int .i64 s.seq, .int .i64 s.ack, .int .i64 s.fl, .int .i64 s.win, .int .i64 s.mss, .bool s.hs, .int .i64 s.sc, .bool s.so, vs, vd]] 31 12 false
theorem cat3 {a b : List UInt8} (h : a.length + b.length ≤ 1000000) : ibin .add (.str a) (.str b) = some (.str (a ++ b)) := ibs_cat (by omega)

def T1 (s : Seg) : List UInt8 := numI s.sp ++ [62] ++ numI s.dp
def T2 (s : Seg) : List UInt8 := Lib.join (w0 s) [32]
theorem T2_eq (s : Seg) : T2 s = T1 s ++ [32] ++ flW s.fl ++ [32] ++ numI s.seq ++ [32] ++ numI s.ack ++ [32] ++ numI s.win := by
  unfold T2 w0 T1
  rw [join_tl]
  simp [tl]
theorem join_T2 (s : Seg) (v : List (List UInt8)) : Lib.join (w0 s ++ v) [32] = T2 s ++ tl v := join_app _ _ _
theorem flT_len (n : Int) : ∀ l : List (Nat × UInt8), (flT n l).length ≤ l.length
  | [] => by simp [flT]
  | x :: l => by
    have := flT_len n l
    unfold flT at this ⊢
    rw [List.flatMap_cons]
    split <;> simp only [List.length_append, List.length_cons, List.length_nil] <;> omega
theorem flW_len (n : Int) : (flW n).length ≤ 6 := by
  unfold flW
  split
  · simp
  · exact flT_len n flLet
theorem flW_eq (n : Int) : (if n = 0 then [45] else []) ++ flT n flLet = flW n := by
  unfold flW
  by_cases h : n = 0
  · subst h; rw [if_pos rfl, if_pos rfl]; decide
  · rw [if_neg h, if_neg h]; rfl
theorem flT_snoc {n : Int} {k : Nat} (hk : k < 6) : flT n (flLet.take (k + 1)) = flT n (flLet.take k) ++ (if flHas n (flLet.getD k default).1 = true then [(flLet.getD k default).2] else []) := by
  have : flLet.take (k + 1) = flLet.take k ++ [flLet.getD k default] := by
    match k, hk with
    | 0, _ | 1, _ | 2, _ | 3, _ | 4, _ | 5, _ => rfl
    | _ + 6, h => omega
  rw [this]; simp [flT]
theorem T2_len {s : Seg} (h : okSeg s = true) : (T2 s).length ≤ 200 := by
  obtain ⟨p1, p2, p3, p4, p5, p6, p7, p8, p9, p10, p11⟩ := okSeg_parts h
  have n1 := numI_len (n := s.sp) (by omega)
  have n2 := numI_len (n := s.dp) (by omega)
  have n3 := numI_len (n := s.seq) (by omega)
  have n4 := numI_len (n := s.ack) (by omega)
  have n5 := numI_len (n := s.win) (by omega)
  have n6 := flW_len s.fl
  rw [T2_eq]; unfold T1
  simp only [List.length_append, List.length_singleton]
  omega
theorem tl_w1 (s : Seg) (h : s.mss ≤ 65535) : (tl (w1 s)).length ≤ 30 := by
  have := numI_len (n := s.mss) (by omega)
  unfold w1
  split
  · simp [tl]
  · simp [tl, mssW]; omega
theorem tl_w2 (s : Seg) (h : s.sc ≤ 14) : (tl (w2 s)).length ≤ 30 := by
  have := numI_len (n := s.sc) (by omega)
  unfold w2
  split
  · simp [tl, scaleW]; omega
  · simp [tl]
theorem tl_w3 (s : Seg) : (tl (w3 s)).length ≤ 30 := by
  unfold w3
  split <;> simp [tl, sackokW]
theorem tl_w4 : ∀ (l : List (Int × Int)), (∀ x ∈ l, (0 ≤ x.1 ∧ x.1 ≤ 4294967295) ∧ 0 ≤ x.2 ∧ x.2 ≤ 4294967295) → (tl (w4 l)).length ≤ 60 * l.length
  | [], _ => by simp [tl, w4]
  | x :: l, h => by
    have ih := tl_w4 l (fun y hy => h y (List.mem_cons_of_mem _ hy))
    have hx := h x List.mem_cons_self
    have n1 := numI_len (n := x.1) (by omega)
    have n2 := numI_len (n := x.2) (by omega)
    have e : w4 (x :: l) = [sackW, sackT x] ++ w4 l := rfl
    rw [e, tl_app]
    simp only [List.length_append]
    have : (tl [sackW, sackT x]).length ≤ 60 := by
      simp [tl, sackW, sackT]; omega
    simp only [List.length_cons]
    omega
theorem w4_snoc {l : List (Int × Int)} {k : Nat} {x : Int × Int} (h : l[k]? = some x) : w4 (l.take (k + 1)) = w4 (l.take k) ++ [sackW, sackT x] := by
  rw [List.take_add_one, h]; simp [w4]

set_option maxHeartbeats 4000000 in
theorem specShow_c (h : IH) (s : Seg) (vs vd : IV) (hs : SlR h 2 vs (sackRows s.sacks)) (hd : SlR h 1 vd (strRows s.data)) :
    ICalls Tryd.prog 7 [.agg (s.cells vs vd)] h fun r h' => r = .tuple [.str (showSeg s).1, .int .i64 (showSeg s).2] ∧ Ext h h' := by
  refine icalls (.of ok7) (Nat.le_of_ble_eq_true rfl) ?_
  unfold c7 Seg.cells
  have v1 := hs.one
  have v2 := hd.one
  have v3 := hs.lenF
  have v4 := hd.lenF
  rw [sackRows_len] at v3
  rw [strRows_len] at v4
  refine vc_split 2 (fun e g => okSeg s = true ∧ s.data.length ≤ 4000 ∧ e 1 = .ptr h.n 0 0 ∧ At g h.n (segObj s vs vd) ∧ Ext h g) ?_ ?_
  · simp only [CC.split]
    simp (disch := (first | omega | assumption | (simp only [push_n, set_n, put_n, List.length_cons, List.length_nil, List.length_append, Nat.reduceAdd]; done) | (simp only [push_n, set_n, put_n, List.length_cons, List.length_nil, List.length_append]; omega) | (simp only [List.all_cons, List.all_nil, one_bool, one_int, one_str, one_ptr, one_nilptr, one_slice, one_eslice, one_nilslice, one_func, one_iface, one_niliface, Bool.and_true, Bool.true_and, List.getD_cons_zero, List.getD_cons_succ, List.contains_cons, List.contains_nil, Bool.or_true, Bool.true_or, Bool.or_false, Bool.false_or, Nat.reduceBEq, *]; done) | fail)) only [v1, v2, go_sem, Hold.p, HoldK.k, HoldL.K, HoldL.body, Nat.reduceBEq, Nat.reduceAdd, reduceIte]
    generalize hq_g : IH.push h (segObj s vs vd) = g
    have e_g : Ext h g := by rw [← hq_g]; exact (Ext.refl _).push _
    have l_g : g.n = h.n + 1 := by rw [← hq_g]; rfl
    have b : At g h.n (segObj s vs vd) := by rw [← hq_g]; exact At.new _ _
    clear hq_g
    have hs := hs.ext e_g
    have hd := hd.ext e_g
    have q := b.eq
    try simp (disch := (first | omega | assumption | (simp only [push_n, set_n, put_n, List.length_cons, List.length_nil, List.length_append, Nat.reduceAdd]; done) | (simp only [push_n, set_n, put_n, List.length_cons, List.length_nil, List.length_append]; omega) | (simp only [List.all_cons, List.all_nil, one_bool, one_int, one_str, one_ptr, one_nilptr, one_slice, one_eslice, one_nilslice, one_func, one_iface, one_niliface, Bool.and_true, Bool.true_and, List.getD_cons_zero, List.getD_cons_succ, List.contains_cons, List.contains_nil, Bool.or_true, Bool.true_or, Bool.or_false, Bool.false_or, Nat.reduceBEq, *]; done) | fail)) only [q, go_sem, Hold.p, HoldK.k, HoldL.K, HoldL.body, Nat.reduceBEq, Nat.reduceAdd, reduceIte]
    refine callA_of (specOkSegment_c g s vs vd hs hd) ?_
    rintro r g1 ⟨rfl, E1⟩
    have b := b.ext E1
    have hs := hs.ext E1
    have hd := hd.ext E1
    have le_E1 := E1.le
    have q1 := b.eq
    simp (disch := (first | omega | assumption | (simp only [push_n, set_n, put_n, List.length_cons, List.length_nil, List.length_append, Nat.reduceAdd]; done) | (simp only [push_n, set_n, put_n, List.length_cons, List.length_nil, List.length_append]; omega) | (simp only [List.all_cons, List.all_nil, one_bool, one_int, one_str, one_ptr, one_nilptr, one_slice, one_eslice, one_nilslice, one_func, one_iface, one_niliface, Bool.and_true, Bool.true_and, List.getD_cons_zero, List.getD_cons_succ, List.contains_cons, List.contains_nil, Bool.or_true, Bool.true_or, Bool.or_false, Bool.false_or, Nat.reduceBEq, *]; done) | fail)) only [q1, v4, go_sem, Hold.p, HoldK.k, HoldL.K, HoldL.body, Nat.reduceBEq, Nat.reduceAdd, reduceIte]
    refine test_of (fun hc => ?_) (fun hc => ?_)
    · simp (disch := (first | omega | assumption | (simp only [push_n, set_n, put_n, List.length_cons, List.length_nil, List.length_append, Nat.reduceAdd]; done) | (simp only [push_n, set_n, put_n, List.length_cons, List.length_nil, List.length_append]; omega) | (simp only [List.all_cons, List.all_nil, one_bool, one_int, one_str, one_ptr, one_nilptr, one_slice, one_eslice, one_nilslice, one_func, one_iface, one_niliface, Bool.and_true, Bool.true_and, List.getD_cons_zero, List.getD_cons_succ, List.contains_cons, List.contains_nil, Bool.or_true, Bool.true_or, Bool.or_false, Bool.false_or, Nat.reduceBEq, *]; done) | fail)) only [go_sem, Hold.p, HoldK.k, HoldL.K, HoldL.body, Nat.reduceBEq, Nat.reduceAdd, reduceIte]
      have : showSeg s = ([], 1) := by
        unfold showSeg
        rw [if_neg]
        rintro ⟨h1, h2⟩
        rw [h1] at hc
        simp at hc
        omega
      rw [this]
      exact ⟨rfl, e_g.trans E1⟩
    · simp (disch := (first | omega | assumption | (simp only [push_n, set_n, put_n, List.length_cons, List.length_nil, List.length_append, Nat.reduceAdd]; done) | (simp only [push_n, set_n, put_n, List.length_cons, List.length_nil, List.length_append]; omega) | (simp only [List.all_cons, List.all_nil, one_bool, one_int, one_str, one_ptr, one_nilptr, one_slice, one_eslice, one_nilslice, one_func, one_iface, one_niliface, Bool.and_true, Bool.true_and, List.getD_cons_zero, List.getD_cons_succ, List.contains_cons, List.contains_nil, Bool.or_true, Bool.true_or, Bool.or_false, Bool.false_or, Nat.reduceBEq, *]; done) | fail)) only [go_sem, Hold.p, HoldK.k, HoldL.K, HoldL.body, Nat.reduceBEq, Nat.reduceAdd, reduceIte]
      simp at hc
      exact ⟨hc.1, by omega, b, e_g.trans E1⟩
  rintro e g ⟨hok, hdl, i1, b, E⟩
  have hS : showSeg s = (Lib.join (segW s) [32], 0) := by unfold showSeg; rw [if_pos ⟨hok, hdl⟩]
  rw [hS]
  obtain ⟨p1, p2, p3, p4, p5, p6, p7, p8, p9, p10, p11⟩ := okSeg_parts hok
  have n1 := numI_len (n := s.sp) (by omega)
  have n2 := numI_len (n := s.dp) (by omega)
  have n3 := numI_len (n := s.seq) (by omega)
  have n4 := numI_len (n := s.ack) (by omega)
  have n5 := numI_len (n := s.win) (by omega)
  have n6 := numI_len (n := s.mss) (by omega)
  have n7 := numI_len (n := s.sc) (by omega)
  simp only [CC.split]
  refine vc_split 1 (fun e g => e 1 = .ptr h.n 0 0 ∧ e 4 = .str (T1 s ++ [32]) ∧ At g h.n (segObj s vs vd) ∧ Ext h g) ?_ ?_
  · simp only [CC.split]
    have q := b.eq
    simp (disch := (first | omega | assumption | (simp only [push_n, set_n, put_n, List.length_cons, List.length_nil, List.length_append, Nat.reduceAdd]; done) | (simp only [push_n, set_n, put_n, List.length_cons, List.length_nil, List.length_append]; omega) | (simp only [List.all_cons, List.all_nil, one_bool, one_int, one_str, one_ptr, one_nilptr, one_slice, one_eslice, one_nilslice, one_func, one_iface, one_niliface, Bool.and_true, Bool.true_and, List.getD_cons_zero, List.getD_cons_succ, List.contains_cons, List.contains_nil, Bool.or_true, Bool.true_or, Bool.or_false, Bool.false_or, Nat.reduceBEq, *]; done) | fail)) only [i1, q, go_sem, Hold.p, HoldK.k, HoldL.K, HoldL.body, Nat.reduceBEq, Nat.reduceAdd, reduceIte]
    refine callA_of (numI_c g p1.1 (by omega)) ?_
    rintro r g1 ⟨rfl, E1⟩
    have b := b.ext E1
    have le_E1 := E1.le
    have q1 := b.eq
    simp (disch := (first | omega | assumption | (simp only [push_n, set_n, put_n, List.length_cons, List.length_nil, List.length_append, Nat.reduceAdd]; done) | (simp only [push_n, set_n, put_n, List.length_cons, List.length_nil, List.length_append]; omega) | (simp only [List.all_cons, List.all_nil, one_bool, one_int, one_str, one_ptr, one_nilptr, one_slice, one_eslice, one_nilslice, one_func, one_iface, one_niliface, Bool.and_true, Bool.true_and, List.getD_cons_zero, List.getD_cons_succ, List.contains_cons, List.contains_nil, Bool.or_true, Bool.true_or, Bool.or_false, Bool.false_or, Nat.reduceBEq, *]; done) | fail)) only [q1, i1, cat3, go_sem, Hold.p, HoldK.k, HoldL.K, HoldL.body, Nat.reduceBEq, Nat.reduceAdd, reduceIte]
    refine callA_of (numI_c g1 p2.1 (by omega)) ?_
    rintro r g2 ⟨rfl, E2⟩
    have b := b.ext E2
    have le_E2 := E2.le
    have q2 := b.eq
    simp (disch := (first | omega | assumption | (simp only [push_n, set_n, put_n, List.length_cons, List.length_nil, List.length_append, Nat.reduceAdd]; done) | (simp only [push_n, set_n, put_n, List.length_cons, List.length_nil, List.length_append]; omega) | (simp only [List.all_cons, List.all_nil, one_bool, one_int, one_str, one_ptr, one_nilptr, one_slice, one_eslice, one_nilslice, one_func, one_iface, one_niliface, Bool.and_true, Bool.true_and, List.getD_cons_zero, List.getD_cons_succ, List.contains_cons, List.contains_nil, Bool.or_true, Bool.true_or, Bool.or_false, Bool.false_or, Nat.reduceBEq, *]; done) | fail)) only [q2, i1, cat3, go_sem, Hold.p, HoldK.k, HoldL.K, HoldL.body, Nat.reduceBEq, Nat.reduceAdd, reduceIte]
    exact ⟨rfl, b, (E.trans E1).trans E2⟩
  clear i1 b E g e
  rintro e g ⟨i1, i4, b, E⟩
  have t1 : (T1 s).length ≤ 50 := by unfold T1; simp; omega
  simp only [CC.split]
  refine vc_split 1 (fun e g => e 1 = .ptr h.n 0 0 ∧ e 4 = .str (T1 s ++ [32] ++ (if s.fl = 0 then [45] else [])) ∧ At g h.n (segObj s vs vd) ∧ Ext h g) ?_ ?_
  · simp only [CC.split]
    have q := b.eq
    simp (disch := (first | omega | assumption | (simp only [push_n, set_n, put_n, List.length_cons, List.length_nil, List.length_append, Nat.reduceAdd]; done) | (simp only [push_n, set_n, put_n, List.length_cons, List.length_nil, List.length_append]; omega) | (simp only [List.all_cons, List.all_nil, one_bool, one_int, one_str, one_ptr, one_nilptr, one_slice, one_eslice, one_nilslice, one_func, one_iface, one_niliface, Bool.and_true, Bool.true_and, List.getD_cons_zero, List.getD_cons_succ, List.contains_cons, List.contains_nil, Bool.or_true, Bool.true_or, Bool.or_false, Bool.false_or, Nat.reduceBEq, *]; done) | fail)) only [i1, q, go_sem, Hold.p, HoldK.k, HoldL.K, HoldL.body, Nat.reduceBEq, Nat.reduceAdd, reduceIte]
    refine test_dec (fun hf => ?_) (fun hf => ?_)
    · simp (disch := (first | omega | assumption | (simp only [push_n, set_n, put_n, List.length_cons, List.length_nil, List.length_append, Nat.reduceAdd]; done) | (simp only [push_n, set_n, put_n, List.length_cons, List.length_nil, List.length_append]; omega) | (simp only [List.all_cons, List.all_nil, one_bool, one_int, one_str, one_ptr, one_nilptr, one_slice, one_eslice, one_nilslice, one_func, one_iface, one_niliface, Bool.and_true, Bool.true_and, List.getD_cons_zero, List.getD_cons_succ, List.contains_cons, List.contains_nil, Bool.or_true, Bool.true_or, Bool.or_false, Bool.false_or, Nat.reduceBEq, *]; done) | fail)) only [i1, i4, cat3, hf, go_sem, Hold.p, HoldK.k, HoldL.K, HoldL.body, Nat.reduceBEq, Nat.reduceAdd, reduceIte]
      exact ⟨b, E⟩
    · simp (disch := (first | omega | assumption | (simp only [push_n, set_n, put_n, List.length_cons, List.length_nil, List.length_append, Nat.reduceAdd]; done) | (simp only [push_n, set_n, put_n, List.length_cons, List.length_nil, List.length_append]; omega) | (simp only [List.all_cons, List.all_nil, one_bool, one_int, one_str, one_ptr, one_nilptr, one_slice, one_eslice, one_nilslice, one_func, one_iface, one_niliface, Bool.and_true, Bool.true_and, List.getD_cons_zero, List.getD_cons_succ, List.contains_cons, List.contains_nil, Bool.or_true, Bool.true_or, Bool.or_false, Bool.false_or, Nat.reduceBEq, *]; done) | fail)) only [i1, i4, go_sem, Hold.p, HoldK.k, HoldL.K, HoldL.body, Nat.reduceBEq, Nat.reduceAdd, reduceIte]
      rw [if_neg hf, List.append_nil]
      exact ⟨rfl, b, E⟩
  clear i1 i4 b E g e
  rintro e g ⟨i1, i4, b, E⟩
  generalize hF : (if s.fl = 0 then ([45] : List UInt8) else []) = F at i4
  have t2 : F.length ≤ 1 := by rw [← hF]; split <;> simp
  simp only [CC.split]
  refine vc_split 1 (fun e g => e 1 = .ptr h.n 0 0 ∧ e 4 = .str (T1 s ++ [32] ++ flW s.fl) ∧ At g h.n (segObj s vs vd) ∧ Ext h g) ?_ ?_
  · simp only [CC.split]
    simp (disch := (first | omega | assumption | (simp only [push_n, set_n, put_n, List.length_cons, List.length_nil, List.length_append, Nat.reduceAdd]; done) | (simp only [push_n, set_n, put_n, List.length_cons, List.length_nil, List.length_append]; omega) | (simp only [List.all_cons, List.all_nil, one_bool, one_int, one_str, one_ptr, one_nilptr, one_slice, one_eslice, one_nilslice, one_func, one_iface, one_niliface, Bool.and_true, Bool.true_and, List.getD_cons_zero, List.getD_cons_succ, List.contains_cons, List.contains_nil, Bool.or_true, Bool.true_or, Bool.or_false, Bool.false_or, Nat.reduceBEq, *]; done) | fail)) only [go_sem, Hold.p, HoldK.k, HoldL.K, HoldL.body, Nat.reduceBEq, Nat.reduceAdd, reduceIte]
    refine loop_at (fun m e g => ∃ k : Nat, m = 6 - k ∧ k ≤ 6 ∧ e 1 = .ptr h.n 0 0 ∧ e 4 = .str (T1 s ++ [32] ++ F ++ flT s.fl (flLet.take k)) ∧ e 5 = .int .i64 (k : Nat) ∧ At g h.n (segObj s vs vd) ∧ Ext h g) 6 ?_ ?_
    · refine ⟨0, by omega, by omega, ?_⟩
      simp (disch := (first | omega | assumption | (simp only [push_n, set_n, put_n, List.length_cons, List.length_nil, List.length_append, Nat.reduceAdd]; done) | (simp only [push_n, set_n, put_n, List.length_cons, List.length_nil, List.length_append]; omega) | (simp only [List.all_cons, List.all_nil, one_bool, one_int, one_str, one_ptr, one_nilptr, one_slice, one_eslice, one_nilslice, one_func, one_iface, one_niliface, Bool.and_true, Bool.true_and, List.getD_cons_zero, List.getD_cons_succ, List.contains_cons, List.contains_nil, Bool.or_true, Bool.true_or, Bool.or_false, Bool.false_or, Nat.reduceBEq, *]; done) | fail)) only [i1, i4, go_sem, Hold.p, HoldK.k, HoldL.K, HoldL.body, Nat.reduceBEq, Nat.reduceAdd, reduceIte]
      exact ⟨by simp [flT], rfl, b, E⟩
    · clear i1 i4 b E g e
      rintro m e g ⟨k, rfl, hk, i1, i4, i5, b, E⟩
      simp (disch := (first | omega | assumption | (simp only [push_n, set_n, put_n, List.length_cons, List.length_nil, List.length_append, Nat.reduceAdd]; done) | (simp only [push_n, set_n, put_n, List.length_cons, List.length_nil, List.length_append]; omega) | (simp only [List.all_cons, List.all_nil, one_bool, one_int, one_str, one_ptr, one_nilptr, one_slice, one_eslice, one_nilslice, one_func, one_iface, one_niliface, Bool.and_true, Bool.true_and, List.getD_cons_zero, List.getD_cons_succ, List.contains_cons, List.contains_nil, Bool.or_true, Bool.true_or, Bool.or_false, Bool.false_or, Nat.reduceBEq, *]; done) | fail)) only [i1, i5, go_sem, Hold.p, HoldK.k, HoldL.K, HoldL.body, Nat.reduceBEq, Nat.reduceAdd, reduceIte]
      refine test_dec (fun hb => ?_) (fun hb => ?_)
      · have hk' : k < 6 := by omega
        have q := b.eq
        have w1 : wr .i64 ((k : Int) + 1) = ((k + 1 : Nat) : Int) := by rw [wr64 _ (by omega)]; rfl
        have w2 : slcSF (.str [83, 70, 82, 80, 65, 85]) (some (.int .i64 (k : Int))) (some (.int .i64 ((k + 1 : Nat) : Int))) = some (.str [(flLet.getD k default).2]) := by
          match k, hk' with
          | 0, _ | 1, _ | 2, _ | 3, _ | 4, _ | 5, _ => rfl
          | _ + 6, h => omega
        have hb6 : (flLet.getD k default).1 < 6 := by
          match k, hk' with
          | 0, _ | 1, _ | 2, _ | 3, _ | 4, _ | 5, _ => decide
          | _ + 6, h => omega
        have hsn := flT_snoc (n := s.fl) hk'
        have t3 := flT_len s.fl (flLet.take k)
        have t4 : (flLet.take k).length ≤ 6 := by rw [List.length_take]; exact Nat.min_le_right _ _
        simp (disch := (first | omega | assumption | (simp only [push_n, set_n, put_n, List.length_cons, List.length_nil, List.length_append, Nat.reduceAdd]; done) | (simp only [push_n, set_n, put_n, List.length_cons, List.length_nil, List.length_append]; omega) | (simp only [List.all_cons, List.all_nil, one_bool, one_int, one_str, one_ptr, one_nilptr, one_slice, one_eslice, one_nilslice, one_func, one_iface, one_niliface, Bool.and_true, Bool.true_and, List.getD_cons_zero, List.getD_cons_succ, List.contains_cons, List.contains_nil, Bool.or_true, Bool.true_or, Bool.or_false, Bool.false_or, Nat.reduceBEq, *]; done) | fail)) only [i1, i5, q, go_sem, Hold.p, HoldK.k, HoldL.K, HoldL.body, Nat.reduceBEq, Nat.reduceAdd, reduceIte]
        refine callA_of (l11Bit_c g k hk') ?_
        rintro r g1 ⟨rfl, E1⟩
        have b := b.ext E1
        have le_E1 := E1.le
        have q1 := b.eq
        simp (disch := (first | omega | assumption | (simp only [push_n, set_n, put_n, List.length_cons, List.length_nil, List.length_append, Nat.reduceAdd]; done) | (simp only [push_n, set_n, put_n, List.length_cons, List.length_nil, List.length_append]; omega) | (simp only [List.all_cons, List.all_nil, one_bool, one_int, one_str, one_ptr, one_nilptr, one_slice, one_eslice, one_nilslice, one_func, one_iface, one_niliface, Bool.and_true, Bool.true_and, List.getD_cons_zero, List.getD_cons_succ, List.contains_cons, List.contains_nil, Bool.or_true, Bool.true_or, Bool.or_false, Bool.false_or, Nat.reduceBEq, *]; done) | fail)) only [q1, i1, i5, go_sem, Hold.p, HoldK.k, HoldL.K, HoldL.body, Nat.reduceBEq, Nat.reduceAdd, reduceIte]
        refine callA_of (l11Has_c g1 s vs vd _ hb6 p5 v1 v2) ?_
        rintro r g2 ⟨rfl, E2⟩
        have b := b.ext E2
        have le_E2 := E2.le
        have q2 := b.eq
        simp (disch := (first | omega | assumption | (simp only [push_n, set_n, put_n, List.length_cons, List.length_nil, List.length_append, Nat.reduceAdd]; done) | (simp only [push_n, set_n, put_n, List.length_cons, List.length_nil, List.length_append]; omega) | (simp only [List.all_cons, List.all_nil, one_bool, one_int, one_str, one_ptr, one_nilptr, one_slice, one_eslice, one_nilslice, one_func, one_iface, one_niliface, Bool.and_true, Bool.true_and, List.getD_cons_zero, List.getD_cons_succ, List.contains_cons, List.contains_nil, Bool.or_true, Bool.true_or, Bool.or_false, Bool.false_or, Nat.reduceBEq, *]; done) | fail)) only [i1, i4, i5, w1, go_sem, Hold.p, HoldK.k, HoldL.K, HoldL.body, Nat.reduceBEq, Nat.reduceAdd, reduceIte]
        generalize (flLet.getD k default).2 = lt at w2 hsn
        generalize flHas s.fl (flLet.getD k default).1 = fb at hsn
        refine test_of (fun hc => ?_) (fun hc => ?_)
        · subst hc
          simp (disch := (first | omega | assumption | (simp only [push_n, set_n, put_n, List.length_cons, List.length_nil, List.length_append, Nat.reduceAdd]; done) | (simp only [push_n, set_n, put_n, List.length_cons, List.length_nil, List.length_append]; omega) | (simp only [List.all_cons, List.all_nil, one_bool, one_int, one_str, one_ptr, one_nilptr, one_slice, one_eslice, one_nilslice, one_func, one_iface, one_niliface, Bool.and_true, Bool.true_and, List.getD_cons_zero, List.getD_cons_succ, List.contains_cons, List.contains_nil, Bool.or_true, Bool.true_or, Bool.or_false, Bool.false_or, Nat.reduceBEq, *]; done) | fail)) only [i1, i4, i5, w1, w2, cat3, go_sem, Hold.p, HoldK.k, HoldL.K, HoldL.body, Nat.reduceBEq, Nat.reduceAdd, reduceIte]
          refine ⟨_, ?_, k + 1, rfl, by omega, ?_, rfl, b, (E.trans E1).trans E2⟩
          · omega
          · rw [hsn]; simp
        · subst hc
          simp (disch := (first | omega | assumption | (simp only [push_n, set_n, put_n, List.length_cons, List.length_nil, List.length_append, Nat.reduceAdd]; done) | (simp only [push_n, set_n, put_n, List.length_cons, List.length_nil, List.length_append]; omega) | (simp only [List.all_cons, List.all_nil, one_bool, one_int, one_str, one_ptr, one_nilptr, one_slice, one_eslice, one_nilslice, one_func, one_iface, one_niliface, Bool.and_true, Bool.true_and, List.getD_cons_zero, List.getD_cons_succ, List.contains_cons, List.contains_nil, Bool.or_true, Bool.true_or, Bool.or_false, Bool.false_or, Nat.reduceBEq, *]; done) | fail)) only [i1, i4, i5, w1, go_sem, Hold.p, HoldK.k, HoldL.K, HoldL.body, Nat.reduceBEq, Nat.reduceAdd, reduceIte]
          refine ⟨_, ?_, k + 1, rfl, by omega, ?_, rfl, b, (E.trans E1).trans E2⟩
          · omega
          · rw [hsn]; simp
      · have hk' : k = 6 := by omega
        subst hk'
        simp (disch := (first | omega | assumption | (simp only [push_n, set_n, put_n, List.length_cons, List.length_nil, List.length_append, Nat.reduceAdd]; done) | (simp only [push_n, set_n, put_n, List.length_cons, List.length_nil, List.length_append]; omega) | (simp only [List.all_cons, List.all_nil, one_bool, one_int, one_str, one_ptr, one_nilptr, one_slice, one_eslice, one_nilslice, one_func, one_iface, one_niliface, Bool.and_true, Bool.true_and, List.getD_cons_zero, List.getD_cons_succ, List.contains_cons, List.contains_nil, Bool.or_true, Bool.true_or, Bool.or_false, Bool.false_or, Nat.reduceBEq, *]; done) | fail)) only [i1, i4, go_sem, Hold.p, HoldK.k, HoldL.K, HoldL.body, Nat.reduceBEq, Nat.reduceAdd, reduceIte]
        refine ⟨?_, b, E⟩
        rw [← flW_eq, hF]
        simp [flLet]
  clear i1 i4 b E g e
  rintro e g ⟨i1, i4, b, E⟩
  have t3 := flW_len s.fl
  simp only [CC.split]
  refine vc_split 1 (fun e g => e 1 = .ptr h.n 0 0 ∧ e 4 = .str (T2 s) ∧ At g h.n (segObj s vs vd) ∧ Ext h g) ?_ ?_
  · simp only [CC.split]
    have q := b.eq
    simp (disch := (first | omega | assumption | (simp only [push_n, set_n, put_n, List.length_cons, List.length_nil, List.length_append, Nat.reduceAdd]; done) | (simp only [push_n, set_n, put_n, List.length_cons, List.length_nil, List.length_append]; omega) | (simp only [List.all_cons, List.all_nil, one_bool, one_int, one_str, one_ptr, one_nilptr, one_slice, one_eslice, one_nilslice, one_func, one_iface, one_niliface, Bool.and_true, Bool.true_and, List.getD_cons_zero, List.getD_cons_succ, List.contains_cons, List.contains_nil, Bool.or_true, Bool.true_or, Bool.or_false, Bool.false_or, Nat.reduceBEq, *]; done) | fail)) only [i1, i4, q, cat3, go_sem, Hold.p, HoldK.k, HoldL.K, HoldL.body, Nat.reduceBEq, Nat.reduceAdd, reduceIte]
    refine callA_of (numI_c g p3.1 (by omega)) ?_
    rintro r g1 ⟨rfl, E1⟩
    have b := b.ext E1
    have le_E1 := E1.le
    have q1 := b.eq
    simp (disch := (first | omega | assumption | (simp only [push_n, set_n, put_n, List.length_cons, List.length_nil, List.length_append, Nat.reduceAdd]; done) | (simp only [push_n, set_n, put_n, List.length_cons, List.length_nil, List.length_append]; omega) | (simp only [List.all_cons, List.all_nil, one_bool, one_int, one_str, one_ptr, one_nilptr, one_slice, one_eslice, one_nilslice, one_func, one_iface, one_niliface, Bool.and_true, Bool.true_and, List.getD_cons_zero, List.getD_cons_succ, List.contains_cons, List.contains_nil, Bool.or_true, Bool.true_or, Bool.or_false, Bool.false_or, Nat.reduceBEq, *]; done) | fail)) only [q1, i1, i4, cat3, go_sem, Hold.p, HoldK.k, HoldL.K, HoldL.body, Nat.reduceBEq, Nat.reduceAdd, reduceIte]
    refine callA_of (numI_c g1 p4.1 (by omega)) ?_
    rintro r g2 ⟨rfl, E2⟩
    have b := b.ext E2
    have le_E2 := E2.le
    have q2 := b.eq
    simp (disch := (first | omega | assumption | (simp only [push_n, set_n, put_n, List.length_cons, List.length_nil, List.length_append, Nat.reduceAdd]; done) | (simp only [push_n, set_n, put_n, List.length_cons, List.length_nil, List.length_append]; omega) | (simp only [List.all_cons, List.all_nil, one_bool, one_int, one_str, one_ptr, one_nilptr, one_slice, one_eslice, one_nilslice, one_func, one_iface, one_niliface, Bool.and_true, Bool.true_and, List.getD_cons_zero, List.getD_cons_succ, List.contains_cons, List.contains_nil, Bool.or_true, Bool.true_or, Bool.or_false, Bool.false_or, Nat.reduceBEq, *]; done) | fail)) only [q2, i1, i4, cat3, go_sem, Hold.p, HoldK.k, HoldL.K, HoldL.body, Nat.reduceBEq, Nat.reduceAdd, reduceIte]
    refine callA_of (numI_c g2 p6.1 (by omega)) ?_
    rintro r g3 ⟨rfl, E3⟩
    have b := b.ext E3
    have le_E3 := E3.le
    have q3 := b.eq
    simp (disch := (first | omega | assumption | (simp only [push_n, set_n, put_n, List.length_cons, List.length_nil, List.length_append, Nat.reduceAdd]; done) | (simp only [push_n, set_n, put_n, List.length_cons, List.length_nil, List.length_append]; omega) | (simp only [List.all_cons, List.all_nil, one_bool, one_int, one_str, one_ptr, one_nilptr, one_slice, one_eslice, one_nilslice, one_func, one_iface, one_niliface, Bool.and_true, Bool.true_and, List.getD_cons_zero, List.getD_cons_succ, List.contains_cons, List.contains_nil, Bool.or_true, Bool.true_or, Bool.or_false, Bool.false_or, Nat.reduceBEq, *]; done) | fail)) only [q3, i1, i4, cat3, go_sem, Hold.p, HoldK.k, HoldL.K, HoldL.body, Nat.reduceBEq, Nat.reduceAdd, reduceIte]
    rw [T2_eq]
    refine ⟨by simp, b, ((E.trans E1).trans E2).trans E3⟩
  clear i1 i4 b E g e
  rintro e g ⟨i1, i4, b, E⟩
  have u2 := T2_len hok
  have u3 := tl_w1 s (by omega)
  have u4 := tl_w2 s (by omega)
  have u5 := tl_w3 s
  simp only [CC.split]
  refine vc_split 1 (fun e g => e 1 = .ptr h.n 0 0 ∧ e 4 = .str (T2 s ++ tl (w1 s)) ∧ At g h.n (segObj s vs vd) ∧ Ext h g) ?_ ?_
  · simp only [CC.split]
    have q := b.eq
    simp (disch := (first | omega | assumption | (simp only [push_n, set_n, put_n, List.length_cons, List.length_nil, List.length_append, Nat.reduceAdd]; done) | (simp only [push_n, set_n, put_n, List.length_cons, List.length_nil, List.length_append]; omega) | (simp only [List.all_cons, List.all_nil, one_bool, one_int, one_str, one_ptr, one_nilptr, one_slice, one_eslice, one_nilslice, one_func, one_iface, one_niliface, Bool.and_true, Bool.true_and, List.getD_cons_zero, List.getD_cons_succ, List.contains_cons, List.contains_nil, Bool.or_true, Bool.true_or, Bool.or_false, Bool.false_or, Nat.reduceBEq, *]; done) | fail)) only [i1, q, go_sem, Hold.p, HoldK.k, HoldL.K, HoldL.body, Nat.reduceBEq, Nat.reduceAdd, reduceIte]
    by_cases hm : s.mss = 0
    · have hd1 : decide (s.mss = 0) = true := decide_eq_true hm
      simp (disch := (first | omega | assumption | (simp only [push_n, set_n, put_n, List.length_cons, List.length_nil, List.length_append, Nat.reduceAdd]; done) | (simp only [push_n, set_n, put_n, List.length_cons, List.length_nil, List.length_append]; omega) | (simp only [List.all_cons, List.all_nil, one_bool, one_int, one_str, one_ptr, one_nilptr, one_slice, one_eslice, one_nilslice, one_func, one_iface, one_niliface, Bool.and_true, Bool.true_and, List.getD_cons_zero, List.getD_cons_succ, List.contains_cons, List.contains_nil, Bool.or_true, Bool.true_or, Bool.or_false, Bool.false_or, Nat.reduceBEq, *]; done) | fail)) only [hd1, i1, i4, go_sem, Hold.p, HoldK.k, HoldL.K, HoldL.body, Nat.reduceBEq, Nat.reduceAdd, reduceIte]
      refine ⟨?_, b, E⟩
      unfold w1; rw [if_pos hm]; simp [tl]
    · have hd1 : decide (s.mss = 0) = false := decide_eq_false hm
      simp (disch := (first | omega | assumption | (simp only [push_n, set_n, put_n, List.length_cons, List.length_nil, List.length_append, Nat.reduceAdd]; done) | (simp only [push_n, set_n, put_n, List.length_cons, List.length_nil, List.length_append]; omega) | (simp only [List.all_cons, List.all_nil, one_bool, one_int, one_str, one_ptr, one_nilptr, one_slice, one_eslice, one_nilslice, one_func, one_iface, one_niliface, Bool.and_true, Bool.true_and, List.getD_cons_zero, List.getD_cons_succ, List.contains_cons, List.contains_nil, Bool.or_true, Bool.true_or, Bool.or_false, Bool.false_or, Nat.reduceBEq, *]; done) | fail)) only [hd1, i1, i4, q, cat3, go_sem, Hold.p, HoldK.k, HoldL.K, HoldL.body, Nat.reduceBEq, Nat.reduceAdd, reduceIte]
      refine callA_of (numI_c g p7.1 (by omega)) ?_
      rintro r g1 ⟨rfl, E1⟩
      have b := b.ext E1
      have le_E1 := E1.le
      have q1 := b.eq
      simp (disch := (first | omega | assumption | (simp only [push_n, set_n, put_n, List.length_cons, List.length_nil, List.length_append, Nat.reduceAdd]; done) | (simp only [push_n, set_n, put_n, List.length_cons, List.length_nil, List.length_append]; omega) | (simp only [List.all_cons, List.all_nil, one_bool, one_int, one_str, one_ptr, one_nilptr, one_slice, one_eslice, one_nilslice, one_func, one_iface, one_niliface, Bool.and_true, Bool.true_and, List.getD_cons_zero, List.getD_cons_succ, List.contains_cons, List.contains_nil, Bool.or_true, Bool.true_or, Bool.or_false, Bool.false_or, Nat.reduceBEq, *]; done) | fail)) only [q1, i1, i4, cat3, go_sem, Hold.p, HoldK.k, HoldL.K, HoldL.body, Nat.reduceBEq, Nat.reduceAdd, reduceIte]
      refine ⟨?_, b, E.trans E1⟩
      unfold w1; rw [if_neg hm]; simp [tl, mssW]
  clear i1 i4 b E g e
  rintro e g ⟨i1, i4, b, E⟩
  simp only [CC.split]
  refine vc_split 1 (fun e g => e 1 = .ptr h.n 0 0 ∧ e 4 = .str (T2 s ++ tl (w1 s) ++ tl (w2 s)) ∧ At g h.n (segObj s vs vd) ∧ Ext h g) ?_ ?_
  · simp only [CC.split]
    have q := b.eq
    simp (disch := (first | omega | assumption | (simp only [push_n, set_n, put_n, List.length_cons, List.length_nil, List.length_append, Nat.reduceAdd]; done) | (simp only [push_n, set_n, put_n, List.length_cons, List.length_nil, List.length_append]; omega) | (simp only [List.all_cons, List.all_nil, one_bool, one_int, one_str, one_ptr, one_nilptr, one_slice, one_eslice, one_nilslice, one_func, one_iface, one_niliface, Bool.and_true, Bool.true_and, List.getD_cons_zero, List.getD_cons_succ, List.contains_cons, List.contains_nil, Bool.or_true, Bool.true_or, Bool.or_false, Bool.false_or, Nat.reduceBEq, *]; done) | fail)) only [i1, q, go_sem, Hold.p, HoldK.k, HoldL.K, HoldL.body, Nat.reduceBEq, Nat.reduceAdd, reduceIte]
    refine test_of (fun hm => ?_) (fun hm => ?_)
    · simp (disch := (first | omega | assumption | (simp only [push_n, set_n, put_n, List.length_cons, List.length_nil, List.length_append, Nat.reduceAdd]; done) | (simp only [push_n, set_n, put_n, List.length_cons, List.length_nil, List.length_append]; omega) | (simp only [List.all_cons, List.all_nil, one_bool, one_int, one_str, one_ptr, one_nilptr, one_slice, one_eslice, one_nilslice, one_func, one_iface, one_niliface, Bool.and_true, Bool.true_and, List.getD_cons_zero, List.getD_cons_succ, List.contains_cons, List.contains_nil, Bool.or_true, Bool.true_or, Bool.or_false, Bool.false_or, Nat.reduceBEq, *]; done) | fail)) only [i1, i4, q, cat3, go_sem, Hold.p, HoldK.k, HoldL.K, HoldL.body, Nat.reduceBEq, Nat.reduceAdd, reduceIte]
      refine callA_of (numI_c g p8.1 (by omega)) ?_
      rintro r g1 ⟨rfl, E1⟩
      have b := b.ext E1
      have le_E1 := E1.le
      have q1 := b.eq
      simp (disch := (first | omega | assumption | (simp only [push_n, set_n, put_n, List.length_cons, List.length_nil, List.length_append, Nat.reduceAdd]; done) | (simp only [push_n, set_n, put_n, List.length_cons, List.length_nil, List.length_append]; omega) | (simp only [List.all_cons, List.all_nil, one_bool, one_int, one_str, one_ptr, one_nilptr, one_slice, one_eslice, one_nilslice, one_func, one_iface, one_niliface, Bool.and_true, Bool.true_and, List.getD_cons_zero, List.getD_cons_succ, List.contains_cons, List.contains_nil, Bool.or_true, Bool.true_or, Bool.or_false, Bool.false_or, Nat.reduceBEq, *]; done) | fail)) only [q1, i1, i4, cat3, go_sem, Hold.p, HoldK.k, HoldL.K, HoldL.body, Nat.reduceBEq, Nat.reduceAdd, reduceIte]
      refine ⟨?_, b, E.trans E1⟩
      unfold w2; rw [if_pos hm]; simp [tl, scaleW]
    · simp (disch := (first | omega | assumption | (simp only [push_n, set_n, put_n, List.length_cons, List.length_nil, List.length_append, Nat.reduceAdd]; done) | (simp only [push_n, set_n, put_n, List.length_cons, List.length_nil, List.length_append]; omega) | (simp only [List.all_cons, List.all_nil, one_bool, one_int, one_str, one_ptr, one_nilptr, one_slice, one_eslice, one_nilslice, one_func, one_iface, one_niliface, Bool.and_true, Bool.true_and, List.getD_cons_zero, List.getD_cons_succ, List.contains_cons, List.contains_nil, Bool.or_true, Bool.true_or, Bool.or_false, Bool.false_or, Nat.reduceBEq, *]; done) | fail)) only [i1, i4, go_sem, Hold.p, HoldK.k, HoldL.K, HoldL.body, Nat.reduceBEq, Nat.reduceAdd, reduceIte]
      refine ⟨?_, b, E⟩
      unfold w2; rw [hm]; simp [tl]
  clear i1 i4 b E g e
  rintro e g ⟨i1, i4, b, E⟩
  simp only [CC.split]
  refine vc_split 1 (fun e g => e 1 = .ptr h.n 0 0 ∧ e 4 = .str (T2 s ++ tl (w1 s) ++ tl (w2 s) ++ tl (w3 s)) ∧ At g h.n (segObj s vs vd) ∧ Ext h g) ?_ ?_
  · simp only [CC.split]
    have q := b.eq
    simp (disch := (first | omega | assumption | (simp only [push_n, set_n, put_n, List.length_cons, List.length_nil, List.length_append, Nat.reduceAdd]; done) | (simp only [push_n, set_n, put_n, List.length_cons, List.length_nil, List.length_append]; omega) | (simp only [List.all_cons, List.all_nil, one_bool, one_int, one_str, one_ptr, one_nilptr, one_slice, one_eslice, one_nilslice, one_func, one_iface, one_niliface, Bool.and_true, Bool.true_and, List.getD_cons_zero, List.getD_cons_succ, List.contains_cons, List.contains_nil, Bool.or_true, Bool.true_or, Bool.or_false, Bool.false_or, Nat.reduceBEq, *]; done) | fail)) only [i1, q, go_sem, Hold.p, HoldK.k, HoldL.K, HoldL.body, Nat.reduceBEq, Nat.reduceAdd, reduceIte]
    refine test_of (fun hm => ?_) (fun hm => ?_)
    · simp (disch := (first | omega | assumption | (simp only [push_n, set_n, put_n, List.length_cons, List.length_nil, List.length_append, Nat.reduceAdd]; done) | (simp only [push_n, set_n, put_n, List.length_cons, List.length_nil, List.length_append]; omega) | (simp only [List.all_cons, List.all_nil, one_bool, one_int, one_str, one_ptr, one_nilptr, one_slice, one_eslice, one_nilslice, one_func, one_iface, one_niliface, Bool.and_true, Bool.true_and, List.getD_cons_zero, List.getD_cons_succ, List.contains_cons, List.contains_nil, Bool.or_true, Bool.true_or, Bool.or_false, Bool.false_or, Nat.reduceBEq, *]; done) | fail)) only [i1, i4, q, cat3, go_sem, Hold.p, HoldK.k, HoldL.K, HoldL.body, Nat.reduceBEq, Nat.reduceAdd, reduceIte]
      refine ⟨?_, b, E⟩
      unfold w3; rw [if_pos hm]; simp [tl, sackokW]
    · simp (disch := (first | omega | assumption | (simp only [push_n, set_n, put_n, List.length_cons, List.length_nil, List.length_append, Nat.reduceAdd]; done) | (simp only [push_n, set_n, put_n, List.length_cons, List.length_nil, List.length_append]; omega) | (simp only [List.all_cons, List.all_nil, one_bool, one_int, one_str, one_ptr, one_nilptr, one_slice, one_eslice, one_nilslice, one_func, one_iface, one_niliface, Bool.and_true, Bool.true_and, List.getD_cons_zero, List.getD_cons_succ, List.contains_cons, List.contains_nil, Bool.or_true, Bool.true_or, Bool.or_false, Bool.false_or, Nat.reduceBEq, *]; done) | fail)) only [i1, i4, go_sem, Hold.p, HoldK.k, HoldL.K, HoldL.body, Nat.reduceBEq, Nat.reduceAdd, reduceIte]
      refine ⟨?_, b, E⟩
      unfold w3; rw [hm]; simp [tl]
  clear i1 i4 b E g e
  rintro e g ⟨i1, i4, b, E⟩
  generalize hX : T2 s ++ tl (w1 s) ++ tl (w2 s) ++ tl (w3 s) = X at i4
  have u6 : X.length ≤ 290 := by rw [← hX]; simp only [List.length_append]; omega
  simp only [CC.split]
  refine vc_split 1 (fun e g => e 1 = .ptr h.n 0 0 ∧ e 4 = .str (X ++ tl (w4 s.sacks)) ∧ At g h.n (segObj s vs vd) ∧ Ext h g) ?_ ?_
  · simp only [CC.split]
    simp (disch := (first | omega | assumption | (simp only [push_n, set_n, put_n, List.length_cons, List.length_nil, List.length_append, Nat.reduceAdd]; done) | (simp only [push_n, set_n, put_n, List.length_cons, List.length_nil, List.length_append]; omega) | (simp only [List.all_cons, List.all_nil, one_bool, one_int, one_str, one_ptr, one_nilptr, one_slice, one_eslice, one_nilslice, one_func, one_iface, one_niliface, Bool.and_true, Bool.true_and, List.getD_cons_zero, List.getD_cons_succ, List.contains_cons, List.contains_nil, Bool.or_true, Bool.true_or, Bool.or_false, Bool.false_or, Nat.reduceBEq, *]; done) | fail)) only [go_sem, Hold.p, HoldK.k, HoldL.K, HoldL.body, Nat.reduceBEq, Nat.reduceAdd, reduceIte]
    refine loop_at (fun m e g => ∃ k : Nat, m = s.sacks.length - k ∧ k ≤ s.sacks.length ∧ e 1 = .ptr h.n 0 0 ∧ e 4 = .str (X ++ tl (w4 (s.sacks.take k))) ∧ e 6 = .int .i64 (k : Nat) ∧ At g h.n (segObj s vs vd) ∧ Ext h g) s.sacks.length ?_ ?_
    · refine ⟨0, by omega, by omega, ?_⟩
      simp (disch := (first | omega | assumption | (simp only [push_n, set_n, put_n, List.length_cons, List.length_nil, List.length_append, Nat.reduceAdd]; done) | (simp only [push_n, set_n, put_n, List.length_cons, List.length_nil, List.length_append]; omega) | (simp only [List.all_cons, List.all_nil, one_bool, one_int, one_str, one_ptr, one_nilptr, one_slice, one_eslice, one_nilslice, one_func, one_iface, one_niliface, Bool.and_true, Bool.true_and, List.getD_cons_zero, List.getD_cons_succ, List.contains_cons, List.contains_nil, Bool.or_true, Bool.true_or, Bool.or_false, Bool.false_or, Nat.reduceBEq, *]; done) | fail)) only [i1, i4, go_sem, Hold.p, HoldK.k, HoldL.K, HoldL.body, Nat.reduceBEq, Nat.reduceAdd, reduceIte]
      exact ⟨by simp [tl, w4], rfl, b, E⟩
    · clear i1 i4 b E g e
      rintro m e g ⟨k, rfl, hk, i1, i4, i6, b, E⟩
      have q := b.eq
      simp (disch := (first | omega | assumption | (simp only [push_n, set_n, put_n, List.length_cons, List.length_nil, List.length_append, Nat.reduceAdd]; done) | (simp only [push_n, set_n, put_n, List.length_cons, List.length_nil, List.length_append]; omega) | (simp only [List.all_cons, List.all_nil, one_bool, one_int, one_str, one_ptr, one_nilptr, one_slice, one_eslice, one_nilslice, one_func, one_iface, one_niliface, Bool.and_true, Bool.true_and, List.getD_cons_zero, List.getD_cons_succ, List.contains_cons, List.contains_nil, Bool.or_true, Bool.true_or, Bool.or_false, Bool.false_or, Nat.reduceBEq, *]; done) | fail)) only [i1, i6, q, v3, go_sem, Hold.p, HoldK.k, HoldL.K, HoldL.body, Nat.reduceBEq, Nat.reduceAdd, reduceIte]
      refine test_dec (fun hb => ?_) (fun hb => ?_)
      · have hk' : k < s.sacks.length := by omega
        obtain ⟨x, hx⟩ : ∃ x, s.sacks[k]? = some x := ⟨_, List.getElem?_eq_getElem hk'⟩
        have hxm := p11 x (List.mem_of_getElem? hx)
        have m1 := numI_len (n := x.1) (by omega)
        have m2 := numI_len (n := x.2) (by omega)
        have hsg := hs.ext E
        obtain ⟨l, j, hia, hll, hrow⟩ := hsg.at (m := k) (sackRows_at hx) .i64
        have hcl := cellO_row hrow
        have w1 : wr .i64 ((k : Int) + 1) = ((k + 1 : Nat) : Int) := by rw [wr64 _ (by omega)]; rfl
        have u7 := tl_w4 (s.sacks.take k) (fun y hy => p11 y (List.mem_of_mem_take hy))
        rw [List.length_take, Nat.min_eq_left hk] at u7
        simp (disch := (first | omega | assumption | (simp only [push_n, set_n, put_n, List.length_cons, List.length_nil, List.length_append, Nat.reduceAdd]; done) | (simp only [push_n, set_n, put_n, List.length_cons, List.length_nil, List.length_append]; omega) | (simp only [List.all_cons, List.all_nil, one_bool, one_int, one_str, one_ptr, one_nilptr, one_slice, one_eslice, one_nilslice, one_func, one_iface, one_niliface, Bool.and_true, Bool.true_and, List.getD_cons_zero, List.getD_cons_succ, List.contains_cons, List.contains_nil, Bool.or_true, Bool.true_or, Bool.or_false, Bool.false_or, Nat.reduceBEq, *]; done) | fail)) only [i1, i4, i6, q, hia, hcl, cat3, go_sem, Hold.p, HoldK.k, HoldL.K, HoldL.body, Nat.reduceBEq, Nat.reduceAdd, reduceIte]
        refine callA_of (numI_c g hxm.1.1 (by omega)) ?_
        rintro r g1 ⟨rfl, E1⟩
        have b := b.ext E1
        have hsg := hsg.ext E1
        have le_E1 := E1.le
        have q1 := b.eq
        obtain ⟨l2, j2, hia2, hll2, hrow2⟩ := hsg.at (m := k) (sackRows_at hx) .i64
        have hcl2 := cellO_row hrow2
        have hee : IV.ptr l2 j2 0 = IV.ptr l j 0 := by
          have h1 := iadr_same hia (E1.obj l hll)
          exact Option.some.inj (hia2.symm.trans h1)
        simp only [IV.ptr.injEq, and_true] at hee
        obtain ⟨rfl, rfl⟩ := hee
        simp (disch := (first | omega | assumption | (simp only [push_n, set_n, put_n, List.length_cons, List.length_nil, List.length_append, Nat.reduceAdd]; done) | (simp only [push_n, set_n, put_n, List.length_cons, List.length_nil, List.length_append]; omega) | (simp only [List.all_cons, List.all_nil, one_bool, one_int, one_str, one_ptr, one_nilptr, one_slice, one_eslice, one_nilslice, one_func, one_iface, one_niliface, Bool.and_true, Bool.true_and, List.getD_cons_zero, List.getD_cons_succ, List.contains_cons, List.contains_nil, Bool.or_true, Bool.true_or, Bool.or_false, Bool.false_or, Nat.reduceBEq, *]; done) | fail)) only [i1, i4, i6, q1, hia2, hcl2, cat3, go_sem, Hold.p, HoldK.k, HoldL.K, HoldL.body, Nat.reduceBEq, Nat.reduceAdd, reduceIte]
        refine callA_of (numI_c g1 hxm.2.1 (by omega)) ?_
        rintro r g2 ⟨rfl, E2⟩
        have b := b.ext E2
        have le_E2 := E2.le
        have q2 := b.eq
        simp (disch := (first | omega | assumption | (simp only [push_n, set_n, put_n, List.length_cons, List.length_nil, List.length_append, Nat.reduceAdd]; done) | (simp only [push_n, set_n, put_n, List.length_cons, List.length_nil, List.length_append]; omega) | (simp only [List.all_cons, List.all_nil, one_bool, one_int, one_str, one_ptr, one_nilptr, one_slice, one_eslice, one_nilslice, one_func, one_iface, one_niliface, Bool.and_true, Bool.true_and, List.getD_cons_zero, List.getD_cons_succ, List.contains_cons, List.contains_nil, Bool.or_true, Bool.true_or, Bool.or_false, Bool.false_or, Nat.reduceBEq, *]; done) | fail)) only [i1, i4, i6, cat3, w1, go_sem, Hold.p, HoldK.k, HoldL.K, HoldL.body, Nat.reduceBEq, Nat.reduceAdd, reduceIte]
        refine ⟨_, ?_, k + 1, rfl, by omega, ?_, rfl, b, (E.trans E1).trans E2⟩
        · omega
        · rw [w4_snoc hx, tl_app]; simp [tl, sackW, sackT]
      · have hk' : k = s.sacks.length := by omega
        subst hk'
        simp (disch := (first | omega | assumption | (simp only [push_n, set_n, put_n, List.length_cons, List.length_nil, List.length_append, Nat.reduceAdd]; done) | (simp only [push_n, set_n, put_n, List.length_cons, List.length_nil, List.length_append]; omega) | (simp only [List.all_cons, List.all_nil, one_bool, one_int, one_str, one_ptr, one_nilptr, one_slice, one_eslice, one_nilslice, one_func, one_iface, one_niliface, Bool.and_true, Bool.true_and, List.getD_cons_zero, List.getD_cons_succ, List.contains_cons, List.contains_nil, Bool.or_true, Bool.true_or, Bool.or_false, Bool.false_or, Nat.reduceBEq, *]; done) | fail)) only [i1, i4, go_sem, Hold.p, HoldK.k, HoldL.K, HoldL.body, Nat.reduceBEq, Nat.reduceAdd, reduceIte]
        rw [List.take_length]
        exact ⟨rfl, b, E⟩
  clear i1 i4 b E g e
  rintro e g ⟨i1, i4, b, E⟩
  have u7 := tl_w4 s.sacks p11
  simp only [CC.split]
  have q := b.eq
  have hfin : Lib.join (segW s) [32] = X ++ tl (w4 s.sacks) ++ tl (w5 s) := by
    unfold segW
    simp only [List.append_assoc]
    rw [join_T2]
    simp only [tl_app, ← hX, List.append_assoc]
  rw [hfin]
  simp (disch := (first | omega | assumption | (simp only [push_n, set_n, put_n, List.length_cons, List.length_nil, List.length_append, Nat.reduceAdd]; done) | (simp only [push_n, set_n, put_n, List.length_cons, List.length_nil, List.length_append]; omega) | (simp only [List.all_cons, List.all_nil, one_bool, one_int, one_str, one_ptr, one_nilptr, one_slice, one_eslice, one_nilslice, one_func, one_iface, one_niliface, Bool.and_true, Bool.true_and, List.getD_cons_zero, List.getD_cons_succ, List.contains_cons, List.contains_nil, Bool.or_true, Bool.true_or, Bool.or_false, Bool.false_or, Nat.reduceBEq, *]; done) | fail)) only [i1, q, v4, go_sem, Hold.p, HoldK.k, HoldL.K, HoldL.body, Nat.reduceBEq, Nat.reduceAdd, reduceIte]
  by_cases hm : s.data = []
  · have hd1 : decide ((0 : Int) < (s.data.length : Int)) = false := by rw [hm]; rfl
    simp (disch := (first | omega | assumption | (simp only [push_n, set_n, put_n, List.length_cons, List.length_nil, List.length_append, Nat.reduceAdd]; done) | (simp only [push_n, set_n, put_n, List.length_cons, List.length_nil, List.length_append]; omega) | (simp only [List.all_cons, List.all_nil, one_bool, one_int, one_str, one_ptr, one_nilptr, one_slice, one_eslice, one_nilslice, one_func, one_iface, one_niliface, Bool.and_true, Bool.true_and, List.getD_cons_zero, List.getD_cons_succ, List.contains_cons, List.contains_nil, Bool.or_true, Bool.true_or, Bool.or_false, Bool.false_or, Nat.reduceBEq, *]; done) | fail)) only [hd1, i4, go_sem, Hold.p, HoldK.k, HoldL.K, HoldL.body, Nat.reduceBEq, Nat.reduceAdd, reduceIte]
    refine ⟨?_, E⟩
    unfold w5; rw [if_pos hm]; simp [tl]
  · have hd1 : decide ((0 : Int) < (s.data.length : Int)) = true := decide_eq_true (by have := List.length_pos_iff.2 hm; omega)
    have hdg := hd.ext E
    have hh : (s.data.flatMap hex2).length ≤ 2 * s.data.length := by
      generalize s.data = l
      induction l with
      | nil => simp
      | cons a l ih => rw [List.flatMap_cons]; simp only [List.length_append, List.length_cons, hex2, List.length_nil]; omega
    simp (disch := (first | omega | assumption | (simp only [push_n, set_n, put_n, List.length_cons, List.length_nil, List.length_append, Nat.reduceAdd]; done) | (simp only [push_n, set_n, put_n, List.length_cons, List.length_nil, List.length_append]; omega) | (simp only [List.all_cons, List.all_nil, one_bool, one_int, one_str, one_ptr, one_nilptr, one_slice, one_eslice, one_nilslice, one_func, one_iface, one_niliface, Bool.and_true, Bool.true_and, List.getD_cons_zero, List.getD_cons_succ, List.contains_cons, List.contains_nil, Bool.or_true, Bool.true_or, Bool.or_false, Bool.false_or, Nat.reduceBEq, *]; done) | fail)) only [hd1, i1, i4, q, cat3, go_sem, Hold.p, HoldK.k, HoldL.K, HoldL.body, Nat.reduceBEq, Nat.reduceAdd, reduceIte]
    refine callA_of (l11HexText_c g vd s.data hdg (by omega)) ?_
    rintro r g1 ⟨rfl, E1⟩
    simp (disch := (first | omega | assumption | (simp only [push_n, set_n, put_n, List.length_cons, List.length_nil, List.length_append, Nat.reduceAdd]; done) | (simp only [push_n, set_n, put_n, List.length_cons, List.length_nil, List.length_append]; omega) | (simp only [List.all_cons, List.all_nil, one_bool, one_int, one_str, one_ptr, one_nilptr, one_slice, one_eslice, one_nilslice, one_func, one_iface, one_niliface, Bool.and_true, Bool.true_and, List.getD_cons_zero, List.getD_cons_succ, List.contains_cons, List.contains_nil, Bool.or_true, Bool.true_or, Bool.or_false, Bool.false_or, Nat.reduceBEq, *]; done) | fail)) only [i4, cat3, go_sem, Hold.p, HoldK.k, HoldL.K, HoldL.body, Nat.reduceBEq, Nat.reduceAdd, reduceIte]
    refine ⟨?_, E.trans E1⟩
    unfold w5; rw [if_neg hm]; simp [tl, dataW]
end
end Go.Proofs.YtaolhgjnlmaooaaDoor
