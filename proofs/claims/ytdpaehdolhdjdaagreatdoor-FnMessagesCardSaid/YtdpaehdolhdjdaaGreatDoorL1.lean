import Derived.Test.YtdpaehdolhdjdaaGreatDoorK2
import Derived.Test.YtdpaehdolhdjdaaGreatDoorProg
import Derived.KernelRfl
import Derived.Shelf.Strings.Trim
import Derived.Shelf.Strconv.Itoa4
import Derived.Shelf.Strings.Cut
import Derived.Shelf.Bytes.SlIndexWhole
import Derived.Test.YtdpaehdolhdjdaaGreatDoorK3
set_option linter.unusedSimpArgs false
set_option linter.unusedVariables false
namespace Go.Proofs.YtdpaehdolhdjdaaGreatDoor
open Go Go.IW
/-- loop.example/g00003/laws.FnMessages -/
def c4 : CC :=
 (.seq (.reg [
   ⟨(some 2), none, .f (.mv (.c (.bool false)))⟩])
 (.seq (.seq (.reg [
   ⟨(some 19), none, .f (.mv (.t 0))⟩,
   ⟨(some 20), none, .f (.len (.t 19))⟩,
   ⟨(some 21), none, .f (.bin .gtr (.t 20) (.c (.int .i64 1048576)))⟩])
 (.cond (.t 21)
  (.seq (.reg [
    ⟨(some 2), none, .f (.mv (.c (.bool true)))⟩])
  .ret)
  .skip))
 (.seq (.reg [
   ⟨(some 22), none, .f (.mv (.t 0))⟩,
   ⟨(some 23), none, .x (.call 10 [(.t 22)])⟩,
   ⟨(some 3), none, .x (.zero 38 4 [(.str []), (.str []), .nilslice, .nilslice])⟩,
   ⟨none, none, .x (.st 4 (.t 3) (.t 23))⟩])
 (.seq (.reg [
   ⟨(some 24), none, .x (.bslice 5 1 [(.int .u8 0)] 4 [(0, (.c (.int .u8 97))), (1, (.c (.int .u8 10))), (2, (.c (.int .u8 10))), (3, (.c (.int .u8 98)))])⟩,
   ⟨(some 25), none, .x (.ux .smark [(.t 24)])⟩,
   ⟨(some 26), none, .f (.build [(.str []), (.str []), .nilslice, .nilslice] [(0, 1, (.c (.str [112, 117, 116]))), (1, 1, (.c (.str [47, 120]))), (3, 1, (.t 25))])⟩,
   ⟨(some 4), none, .x (.zero 38 4 [(.str []), (.str []), .nilslice, .nilslice])⟩,
   ⟨none, none, .x (.st 4 (.t 4) (.t 26))⟩])
 (.seq (.reg [
   ⟨(some 28), none, .f (.ldA 4 (.t 3))⟩,
   ⟨(some 29), none, .x (.call 11 [(.t 28)])⟩,
   ⟨(some 27), none, .f (.mv (.t 29))⟩,
   ⟨(some 30), none, .f (.ext 0 (.t 27))⟩,
   ⟨(some 31), none, .f (.ext 1 (.t 27))⟩,
   ⟨(some 5), none, .f (.mv (.t 30))⟩,
   ⟨(some 6), none, .f (.mv (.t 31))⟩])
 (.seq (.reg [
   ⟨(some 33), none, .f (.ldA 4 (.t 3))⟩,
   ⟨(some 34), none, .x (.call 12 [(.t 33)])⟩,
   ⟨(some 32), none, .f (.mv (.t 34))⟩,
   ⟨(some 35), none, .f (.ext 0 (.t 32))⟩,
   ⟨(some 36), none, .f (.ext 1 (.t 32))⟩,
   ⟨(some 7), none, .f (.mv (.t 35))⟩,
   ⟨(some 8), none, .f (.mv (.t 36))⟩])
 (.seq (.reg [
   ⟨(some 38), none, .f (.ldA 4 (.t 4))⟩,
   ⟨(some 39), none, .x (.call 12 [(.t 38)])⟩,
   ⟨(some 37), none, .f (.mv (.t 39))⟩,
   ⟨(some 40), none, .f (.ext 0 (.t 37))⟩,
   ⟨(some 41), none, .f (.ext 1 (.t 37))⟩,
   ⟨(some 9), none, .f (.mv (.t 40))⟩,
   ⟨(some 10), none, .f (.mv (.t 41))⟩])
 (.seq (.seq (.reg [
   ⟨(some 42), none, .f (.mv (.t 8))⟩,
   ⟨(some 43), none, .f (.mv (.t 6))⟩,
   ⟨(some 44), none, .f (.bin .neq (.t 42) (.t 43))⟩,
   ⟨(some 45), none, .f (.mv (.t 44))⟩,
   ⟨(some 46), (some (45, false)), .f (.mv (.t 10))⟩,
   ⟨(some 47), (some (45, false)), .f (.bin .neq (.t 46) (.c (.int .i64 0)))⟩,
   ⟨(some 48), none, .f (.pick (.t 45) (.c (.bool true)) (.t 47))⟩])
 (.cond (.t 48)
  (.seq (.reg [
    ⟨(some 2), none, .f (.mv (.c (.bool false)))⟩])
  .ret)
  .skip))
 (.seq (.seq (.reg [
   ⟨(some 49), none, .f (.mv (.t 8))⟩,
   ⟨(some 50), none, .f (.bin .eql (.t 49) (.c (.int .i64 0)))⟩])
 (.cond (.t 50)
  (.seq (.dreg [
    ⟨(some 51), none, .x (.bslice 5 1 [(.int .u8 0)] 0 [])⟩,
    ⟨(some 52), none, .f (.mv (.t 7))⟩,
    ⟨(some 53), none, .x (.app 5 1 1 (.t 51) (.t 52))⟩,
    ⟨(some 54), none, .f (.mv (.t 9))⟩,
    ⟨(some 55), none, .x (.app 5 1 1 (.t 53) (.t 54))⟩,
    ⟨(some 56), none, .f (.mv (.t 9))⟩,
    ⟨(some 57), none, .f (.mv (.t 9))⟩,
    ⟨(some 58), none, .f (.len (.t 57))⟩,
    ⟨(some 59), none, .f (.bin .sub (.t 58) (.c (.int .i64 1)))⟩,
    ⟨(some 60), none, .f (.slc 1 (.t 56) none (some (.t 59)) none)⟩,
    ⟨(some 61), none, .x (.app 5 1 1 (.t 55) (.t 60))⟩,
    ⟨(some 11), none, .f (.mv (.t 61))⟩]
    [true, false, true, false, true, false, false, false, false, false, true, false] [[], [], [0, 1], [], [2, 0, 1, 3], [], [], [6], [7, 6], [5, 8, 7, 6], [4, 2, 0, 1, 3, 9, 5, 8, 7, 6], [10, 4, 2, 0, 1, 3, 9, 5, 8, 7, 6]] [1, 3, 5, 6, 7, 8, 9, 0, 2, 4, 10, 11])
  (.seq (.reg [
    ⟨(some 63), none, .f (.mv (.t 11))⟩,
    ⟨(some 64), none, .x (.call 13 [(.t 63)])⟩,
    ⟨(some 62), none, .f (.mv (.t 64))⟩,
    ⟨(some 65), none, .f (.ext 0 (.t 62))⟩,
    ⟨(some 66), none, .f (.ext 1 (.t 62))⟩,
    ⟨(some 67), none, .f (.ext 2 (.t 62))⟩,
    ⟨(some 12), none, .f (.mv (.t 65))⟩,
    ⟨(some 13), none, .f (.mv (.t 66))⟩,
    ⟨(some 14), none, .f (.mv (.t 67))⟩])
  (.seq (.dreg [
    ⟨(some 68), none, .f (.mv (.t 14))⟩,
    ⟨(some 69), none, .f (.bin .neq (.t 68) (.c (.int .i64 0)))⟩,
    ⟨(some 70), none, .f (.mv (.t 69))⟩,
    ⟨(some 71), (some (70, false)), .f (.mv (.t 13))⟩,
    ⟨(some 72), (some (70, false)), .f (.mv (.t 7))⟩,
    ⟨(some 73), (some (70, false)), .f (.len (.t 72))⟩,
    ⟨(some 74), (some (70, false)), .f (.mv (.t 9))⟩,
    ⟨(some 75), (some (70, false)), .f (.len (.t 74))⟩,
    ⟨(some 76), (some (70, false)), .f (.bin .add (.t 73) (.t 75))⟩,
    ⟨(some 77), (some (70, false)), .f (.bin .neq (.t 71) (.t 76))⟩,
    ⟨(some 78), none, .f (.pick (.t 70) (.c (.bool true)) (.t 77))⟩,
    ⟨(some 79), none, .f (.mv (.t 78))⟩,
    ⟨(some 80), (some (79, false)), .f (.mv (.t 12))⟩,
    ⟨(some 81), (some (79, false)), .f (.len (.t 80))⟩,
    ⟨(some 82), (some (79, false)), .f (.bin .neq (.t 81) (.c (.int .i64 2)))⟩,
    ⟨(some 83), none, .f (.pick (.t 79) (.c (.bool true)) (.t 82))⟩,
    ⟨(some 84), none, .f (.mv (.t 83))⟩,
    ⟨(some 85), (some (84, false)), .f (.mv (.t 12))⟩,
    ⟨(some 86), (some (84, false)), .f (.iadr 4 (.t 85) (.c (.int .i64 0)))⟩,
    ⟨(some 87), (some (84, false)), .f (.fadr 0 (.t 86))⟩,
    ⟨(some 88), (some (84, false)), .f (.ld (.t 87))⟩,
    ⟨(some 89), (some (84, false)), .f (.fadr 0 (.t 3))⟩,
    ⟨(some 90), (some (84, false)), .f (.ld (.t 89))⟩,
    ⟨(some 91), (some (84, false)), .f (.bin .neq (.t 88) (.t 90))⟩,
    ⟨(some 92), none, .f (.pick (.t 84) (.c (.bool true)) (.t 91))⟩,
    ⟨(some 93), none, .f (.mv (.t 92))⟩,
    ⟨(some 94), (some (93, false)), .f (.mv (.t 12))⟩,
    ⟨(some 95), (some (93, false)), .f (.iadr 4 (.t 94) (.c (.int .i64 0)))⟩,
    ⟨(some 96), (some (93, false)), .f (.fadr 1 (.t 95))⟩,
    ⟨(some 97), (some (93, false)), .f (.ld (.t 96))⟩,
    ⟨(some 98), (some (93, false)), .f (.fadr 1 (.t 3))⟩,
    ⟨(some 99), (some (93, false)), .f (.ld (.t 98))⟩,
    ⟨(some 100), (some (93, false)), .f (.bin .neq (.t 97) (.t 99))⟩,
    ⟨(some 101), none, .f (.pick (.t 93) (.c (.bool true)) (.t 100))⟩,
    ⟨(some 102), none, .f (.mv (.t 101))⟩,
    ⟨(some 103), (some (102, false)), .f (.mv (.t 12))⟩,
    ⟨(some 104), (some (102, false)), .f (.iadr 4 (.t 103) (.c (.int .i64 0)))⟩,
    ⟨(some 105), (some (102, false)), .f (.fadr 2 (.t 104))⟩,
    ⟨(some 106), (some (102, false)), .f (.ld (.t 105))⟩,
    ⟨(some 107), (some (102, false)), .f (.fadr 2 (.t 3))⟩,
    ⟨(some 108), (some (102, false)), .f (.ld (.t 107))⟩,
    ⟨(some 109), (some (102, false)), .x (.call 14 [(.t 106), (.t 108)])⟩,
    ⟨(some 110), (some (102, false)), .f (.un .not (.t 109))⟩,
    ⟨(some 111), none, .f (.pick (.t 102) (.c (.bool true)) (.t 110))⟩,
    ⟨(some 112), none, .f (.mv (.t 111))⟩,
    ⟨(some 113), (some (112, false)), .f (.mv (.t 12))⟩,
    ⟨(some 114), (some (112, false)), .f (.iadr 4 (.t 113) (.c (.int .i64 0)))⟩,
    ⟨(some 115), (some (112, false)), .f (.fadr 3 (.t 114))⟩,
    ⟨(some 116), (some (112, false)), .f (.ld (.t 115))⟩,
    ⟨(some 117), (some (112, false)), .f (.fadr 3 (.t 3))⟩,
    ⟨(some 118), (some (112, false)), .f (.ld (.t 117))⟩,
    ⟨(some 119), (some (112, false)), .x (.call 15 [(.t 116), (.t 118)])⟩,
    ⟨(some 120), (some (112, false)), .f (.un .not (.t 119))⟩,
    ⟨(some 121), none, .f (.pick (.t 112) (.c (.bool true)) (.t 120))⟩,
    ⟨(some 122), none, .f (.mv (.t 121))⟩,
    ⟨(some 123), (some (122, false)), .f (.mv (.t 12))⟩,
    ⟨(some 124), (some (122, false)), .f (.iadr 4 (.t 123) (.c (.int .i64 1)))⟩,
    ⟨(some 125), (some (122, false)), .f (.fadr 0 (.t 124))⟩,
    ⟨(some 126), (some (122, false)), .f (.ld (.t 125))⟩,
    ⟨(some 127), (some (122, false)), .f (.bin .neq (.t 126) (.c (.str [112, 117, 116])))⟩,
    ⟨(some 128), none, .f (.pick (.t 122) (.c (.bool true)) (.t 127))⟩,
    ⟨(some 129), none, .f (.mv (.t 128))⟩,
    ⟨(some 130), (some (129, false)), .f (.mv (.t 12))⟩,
    ⟨(some 131), (some (129, false)), .f (.iadr 4 (.t 130) (.c (.int .i64 1)))⟩,
    ⟨(some 132), (some (129, false)), .f (.fadr 3 (.t 131))⟩,
    ⟨(some 133), (some (129, false)), .f (.ld (.t 132))⟩,
    ⟨(some 134), (some (129, false)), .f (.fadr 3 (.t 4))⟩,
    ⟨(some 135), (some (129, false)), .f (.ld (.t 134))⟩,
    ⟨(some 136), (some (129, false)), .x (.call 15 [(.t 133), (.t 135)])⟩,
    ⟨(some 137), (some (129, false)), .f (.un .not (.t 136))⟩,
    ⟨(some 138), none, .f (.pick (.t 129) (.c (.bool true)) (.t 137))⟩]
    [false, false, false, false, false, false, false, false, false, false, false, false, false, false, false, false, false, false, false, false, false, false, false, false, false, false, false, false, false, false, false, false, false, false, false, false, false, false, false, false, false, true, false, false, false, false, false, false, false, false, false, true, false, false, false, false, false, false, false, false, false, false, false, false, false, false, false, false, true, false, false] [[], [0], [1, 0], [2, 1, 0], [2, 1, 0], [4, 2, 1, 0], [2, 1, 0], [6, 2, 1, 0], [5, 4, 2, 1, 0, 7, 6], [3, 2, 1, 0, 8, 5, 4, 7, 6], [2, 1, 0, 9, 3, 8, 5, 4, 7, 6], [10, 2, 1, 0, 9, 3, 8, 5, 4, 7, 6], [11, 10, 2, 1, 0, 9, 3, 8, 5, 4, 7, 6], [12, 11, 10, 2, 1, 0, 9, 3, 8, 5, 4, 7, 6], [13, 12, 11, 10, 2, 1, 0, 9, 3, 8, 5, 4, 7, 6], [11, 10, 2, 1, 0, 9, 3, 8, 5, 4, 7, 6, 14, 13, 12], [15, 11, 10, 2, 1, 0, 9, 3, 8, 5, 4, 7, 6, 14, 13, 12], [16, 15, 11, 10, 2, 1, 0, 9, 3, 8, 5, 4, 7, 6, 14, 13, 12], [17, 16, 15, 11, 10, 2, 1, 0, 9, 3, 8, 5, 4, 7, 6, 14, 13, 12], [18, 17, 16, 15, 11, 10, 2, 1, 0, 9, 3, 8, 5, 4, 7, 6, 14, 13, 12], [19, 18, 17, 16, 15, 11, 10, 2, 1, 0, 9, 3, 8, 5, 4, 7, 6, 14, 13, 12], [16, 15, 11, 10, 2, 1, 0, 9, 3, 8, 5, 4, 7, 6, 14, 13, 12], [21, 16, 15, 11, 10, 2, 1, 0, 9, 3, 8, 5, 4, 7, 6, 14, 13, 12], [20, 19, 18, 17, 16, 15, 11, 10, 2, 1, 0, 9, 3, 8, 5, 4, 7, 6, 14, 13, 12, 22, 21], [16, 15, 11, 10, 2, 1, 0, 9, 3, 8, 5, 4, 7, 6, 14, 13, 12, 23, 20, 19, 18, 17, 22, 21], [24, 16, 15, 11, 10, 2, 1, 0, 9, 3, 8, 5, 4, 7, 6, 14, 13, 12, 23, 20, 19, 18, 17, 22, 21], [25, 24, 16, 15, 11, 10, 2, 1, 0, 9, 3, 8, 5, 4, 7, 6, 14, 13, 12, 23, 20, 19, 18, 17, 22, 21], [26, 25, 24, 16, 15, 11, 10, 2, 1, 0, 9, 3, 8, 5, 4, 7, 6, 14, 13, 12, 23, 20, 19, 18, 17, 22, 21], [27, 26, 25, 24, 16, 15, 11, 10, 2, 1, 0, 9, 3, 8, 5, 4, 7, 6, 14, 13, 12, 23, 20, 19, 18, 17, 22, 21], [28, 27, 26, 25, 24, 16, 15, 11, 10, 2, 1, 0, 9, 3, 8, 5, 4, 7, 6, 14, 13, 12, 23, 20, 19, 18, 17, 22, 21], [25, 24, 16, 15, 11, 10, 2, 1, 0, 9, 3, 8, 5, 4, 7, 6, 14, 13, 12, 23, 20, 19, 18, 17, 22, 21], [30, 25, 24, 16, 15, 11, 10, 2, 1, 0, 9, 3, 8, 5, 4, 7, 6, 14, 13, 12, 23, 20, 19, 18, 17, 22, 21], [29, 28, 27, 26, 25, 24, 16, 15, 11, 10, 2, 1, 0, 9, 3, 8, 5, 4, 7, 6, 14, 13, 12, 23, 20, 19, 18, 17, 22, 21, 31, 30], [25, 24, 16, 15, 11, 10, 2, 1, 0, 9, 3, 8, 5, 4, 7, 6, 14, 13, 12, 23, 20, 19, 18, 17, 22, 21, 32, 29, 28, 27, 26, 31, 30], [33, 25, 24, 16, 15, 11, 10, 2, 1, 0, 9, 3, 8, 5, 4, 7, 6, 14, 13, 12, 23, 20, 19, 18, 17, 22, 21, 32, 29, 28, 27, 26, 31, 30], [34, 33, 25, 24, 16, 15, 11, 10, 2, 1, 0, 9, 3, 8, 5, 4, 7, 6, 14, 13, 12, 23, 20, 19, 18, 17, 22, 21, 32, 29, 28, 27, 26, 31, 30], [35, 34, 33, 25, 24, 16, 15, 11, 10, 2, 1, 0, 9, 3, 8, 5, 4, 7, 6, 14, 13, 12, 23, 20, 19, 18, 17, 22, 21, 32, 29, 28, 27, 26, 31, 30], [36, 35, 34, 33, 25, 24, 16, 15, 11, 10, 2, 1, 0, 9, 3, 8, 5, 4, 7, 6, 14, 13, 12, 23, 20, 19, 18, 17, 22, 21, 32, 29, 28, 27, 26, 31, 30], [37, 36, 35, 34, 33, 25, 24, 16, 15, 11, 10, 2, 1, 0, 9, 3, 8, 5, 4, 7, 6, 14, 13, 12, 23, 20, 19, 18, 17, 22, 21, 32, 29, 28, 27, 26, 31, 30], [34, 33, 25, 24, 16, 15, 11, 10, 2, 1, 0, 9, 3, 8, 5, 4, 7, 6, 14, 13, 12, 23, 20, 19, 18, 17, 22, 21, 32, 29, 28, 27, 26, 31, 30], [39, 34, 33, 25, 24, 16, 15, 11, 10, 2, 1, 0, 9, 3, 8, 5, 4, 7, 6, 14, 13, 12, 23, 20, 19, 18, 17, 22, 21, 32, 29, 28, 27, 26, 31, 30], [38, 37, 36, 35, 34, 33, 25, 24, 16, 15, 11, 10, 2, 1, 0, 9, 3, 8, 5, 4, 7, 6, 14, 13, 12, 23, 20, 19, 18, 17, 22, 21, 32, 29, 28, 27, 26, 31, 30, 40, 39], [41, 38, 37, 36, 35, 34, 33, 25, 24, 16, 15, 11, 10, 2, 1, 0, 9, 3, 8, 5, 4, 7, 6, 14, 13, 12, 23, 20, 19, 18, 17, 22, 21, 32, 29, 28, 27, 26, 31, 30, 40, 39], [34, 33, 25, 24, 16, 15, 11, 10, 2, 1, 0, 9, 3, 8, 5, 4, 7, 6, 14, 13, 12, 23, 20, 19, 18, 17, 22, 21, 32, 29, 28, 27, 26, 31, 30, 42, 41, 38, 37, 36, 35, 40, 39], [43, 34, 33, 25, 24, 16, 15, 11, 10, 2, 1, 0, 9, 3, 8, 5, 4, 7, 6, 14, 13, 12, 23, 20, 19, 18, 17, 22, 21, 32, 29, 28, 27, 26, 31, 30, 42, 41, 38, 37, 36, 35, 40, 39], [44, 43, 34, 33, 25, 24, 16, 15, 11, 10, 2, 1, 0, 9, 3, 8, 5, 4, 7, 6, 14, 13, 12, 23, 20, 19, 18, 17, 22, 21, 32, 29, 28, 27, 26, 31, 30, 42, 41, 38, 37, 36, 35, 40, 39], [45, 44, 43, 34, 33, 25, 24, 16, 15, 11, 10, 2, 1, 0, 9, 3, 8, 5, 4, 7, 6, 14, 13, 12, 23, 20, 19, 18, 17, 22, 21, 32, 29, 28, 27, 26, 31, 30, 42, 41, 38, 37, 36, 35, 40, 39], [46, 45, 44, 43, 34, 33, 25, 24, 16, 15, 11, 10, 2, 1, 0, 9, 3, 8, 5, 4, 7, 6, 14, 13, 12, 23, 20, 19, 18, 17, 22, 21, 32, 29, 28, 27, 26, 31, 30, 42, 41, 38, 37, 36, 35, 40, 39], [47, 46, 45, 44, 43, 34, 33, 25, 24, 16, 15, 11, 10, 2, 1, 0, 9, 3, 8, 5, 4, 7, 6, 14, 13, 12, 23, 20, 19, 18, 17, 22, 21, 32, 29, 28, 27, 26, 31, 30, 42, 41, 38, 37, 36, 35, 40, 39], [44, 43, 34, 33, 25, 24, 16, 15, 11, 10, 2, 1, 0, 9, 3, 8, 5, 4, 7, 6, 14, 13, 12, 23, 20, 19, 18, 17, 22, 21, 32, 29, 28, 27, 26, 31, 30, 42, 41, 38, 37, 36, 35, 40, 39], [49, 44, 43, 34, 33, 25, 24, 16, 15, 11, 10, 2, 1, 0, 9, 3, 8, 5, 4, 7, 6, 14, 13, 12, 23, 20, 19, 18, 17, 22, 21, 32, 29, 28, 27, 26, 31, 30, 42, 41, 38, 37, 36, 35, 40, 39], [48, 47, 46, 45, 44, 43, 34, 33, 25, 24, 16, 15, 11, 10, 2, 1, 0, 9, 3, 8, 5, 4, 7, 6, 14, 13, 12, 23, 20, 19, 18, 17, 22, 21, 32, 29, 28, 27, 26, 31, 30, 42, 41, 38, 37, 36, 35, 40, 39, 50, 49], [51, 48, 47, 46, 45, 44, 43, 34, 33, 25, 24, 16, 15, 11, 10, 2, 1, 0, 9, 3, 8, 5, 4, 7, 6, 14, 13, 12, 23, 20, 19, 18, 17, 22, 21, 32, 29, 28, 27, 26, 31, 30, 42, 41, 38, 37, 36, 35, 40, 39, 50, 49], [44, 43, 34, 33, 25, 24, 16, 15, 11, 10, 2, 1, 0, 9, 3, 8, 5, 4, 7, 6, 14, 13, 12, 23, 20, 19, 18, 17, 22, 21, 32, 29, 28, 27, 26, 31, 30, 42, 41, 38, 37, 36, 35, 40, 39, 52, 51, 48, 47, 46, 45, 50, 49], [53, 44, 43, 34, 33, 25, 24, 16, 15, 11, 10, 2, 1, 0, 9, 3, 8, 5, 4, 7, 6, 14, 13, 12, 23, 20, 19, 18, 17, 22, 21, 32, 29, 28, 27, 26, 31, 30, 42, 41, 38, 37, 36, 35, 40, 39, 52, 51, 48, 47, 46, 45, 50, 49], [54, 53, 44, 43, 34, 33, 25, 24, 16, 15, 11, 10, 2, 1, 0, 9, 3, 8, 5, 4, 7, 6, 14, 13, 12, 23, 20, 19, 18, 17, 22, 21, 32, 29, 28, 27, 26, 31, 30, 42, 41, 38, 37, 36, 35, 40, 39, 52, 51, 48, 47, 46, 45, 50, 49], [55, 54, 53, 44, 43, 34, 33, 25, 24, 16, 15, 11, 10, 2, 1, 0, 9, 3, 8, 5, 4, 7, 6, 14, 13, 12, 23, 20, 19, 18, 17, 22, 21, 32, 29, 28, 27, 26, 31, 30, 42, 41, 38, 37, 36, 35, 40, 39, 52, 51, 48, 47, 46, 45, 50, 49], [56, 55, 54, 53, 44, 43, 34, 33, 25, 24, 16, 15, 11, 10, 2, 1, 0, 9, 3, 8, 5, 4, 7, 6, 14, 13, 12, 23, 20, 19, 18, 17, 22, 21, 32, 29, 28, 27, 26, 31, 30, 42, 41, 38, 37, 36, 35, 40, 39, 52, 51, 48, 47, 46, 45, 50, 49], [57, 56, 55, 54, 53, 44, 43, 34, 33, 25, 24, 16, 15, 11, 10, 2, 1, 0, 9, 3, 8, 5, 4, 7, 6, 14, 13, 12, 23, 20, 19, 18, 17, 22, 21, 32, 29, 28, 27, 26, 31, 30, 42, 41, 38, 37, 36, 35, 40, 39, 52, 51, 48, 47, 46, 45, 50, 49], [58, 57, 56, 55, 54, 53, 44, 43, 34, 33, 25, 24, 16, 15, 11, 10, 2, 1, 0, 9, 3, 8, 5, 4, 7, 6, 14, 13, 12, 23, 20, 19, 18, 17, 22, 21, 32, 29, 28, 27, 26, 31, 30, 42, 41, 38, 37, 36, 35, 40, 39, 52, 51, 48, 47, 46, 45, 50, 49], [54, 53, 44, 43, 34, 33, 25, 24, 16, 15, 11, 10, 2, 1, 0, 9, 3, 8, 5, 4, 7, 6, 14, 13, 12, 23, 20, 19, 18, 17, 22, 21, 32, 29, 28, 27, 26, 31, 30, 42, 41, 38, 37, 36, 35, 40, 39, 52, 51, 48, 47, 46, 45, 50, 49, 59, 58, 57, 56, 55], [60, 54, 53, 44, 43, 34, 33, 25, 24, 16, 15, 11, 10, 2, 1, 0, 9, 3, 8, 5, 4, 7, 6, 14, 13, 12, 23, 20, 19, 18, 17, 22, 21, 32, 29, 28, 27, 26, 31, 30, 42, 41, 38, 37, 36, 35, 40, 39, 52, 51, 48, 47, 46, 45, 50, 49, 59, 58, 57, 56, 55], [61, 60, 54, 53, 44, 43, 34, 33, 25, 24, 16, 15, 11, 10, 2, 1, 0, 9, 3, 8, 5, 4, 7, 6, 14, 13, 12, 23, 20, 19, 18, 17, 22, 21, 32, 29, 28, 27, 26, 31, 30, 42, 41, 38, 37, 36, 35, 40, 39, 52, 51, 48, 47, 46, 45, 50, 49, 59, 58, 57, 56, 55], [62, 61, 60, 54, 53, 44, 43, 34, 33, 25, 24, 16, 15, 11, 10, 2, 1, 0, 9, 3, 8, 5, 4, 7, 6, 14, 13, 12, 23, 20, 19, 18, 17, 22, 21, 32, 29, 28, 27, 26, 31, 30, 42, 41, 38, 37, 36, 35, 40, 39, 52, 51, 48, 47, 46, 45, 50, 49, 59, 58, 57, 56, 55], [63, 62, 61, 60, 54, 53, 44, 43, 34, 33, 25, 24, 16, 15, 11, 10, 2, 1, 0, 9, 3, 8, 5, 4, 7, 6, 14, 13, 12, 23, 20, 19, 18, 17, 22, 21, 32, 29, 28, 27, 26, 31, 30, 42, 41, 38, 37, 36, 35, 40, 39, 52, 51, 48, 47, 46, 45, 50, 49, 59, 58, 57, 56, 55], [64, 63, 62, 61, 60, 54, 53, 44, 43, 34, 33, 25, 24, 16, 15, 11, 10, 2, 1, 0, 9, 3, 8, 5, 4, 7, 6, 14, 13, 12, 23, 20, 19, 18, 17, 22, 21, 32, 29, 28, 27, 26, 31, 30, 42, 41, 38, 37, 36, 35, 40, 39, 52, 51, 48, 47, 46, 45, 50, 49, 59, 58, 57, 56, 55], [61, 60, 54, 53, 44, 43, 34, 33, 25, 24, 16, 15, 11, 10, 2, 1, 0, 9, 3, 8, 5, 4, 7, 6, 14, 13, 12, 23, 20, 19, 18, 17, 22, 21, 32, 29, 28, 27, 26, 31, 30, 42, 41, 38, 37, 36, 35, 40, 39, 52, 51, 48, 47, 46, 45, 50, 49, 59, 58, 57, 56, 55], [66, 61, 60, 54, 53, 44, 43, 34, 33, 25, 24, 16, 15, 11, 10, 2, 1, 0, 9, 3, 8, 5, 4, 7, 6, 14, 13, 12, 23, 20, 19, 18, 17, 22, 21, 32, 29, 28, 27, 26, 31, 30, 42, 41, 38, 37, 36, 35, 40, 39, 52, 51, 48, 47, 46, 45, 50, 49, 59, 58, 57, 56, 55], [65, 64, 63, 62, 61, 60, 54, 53, 44, 43, 34, 33, 25, 24, 16, 15, 11, 10, 2, 1, 0, 9, 3, 8, 5, 4, 7, 6, 14, 13, 12, 23, 20, 19, 18, 17, 22, 21, 32, 29, 28, 27, 26, 31, 30, 42, 41, 38, 37, 36, 35, 40, 39, 52, 51, 48, 47, 46, 45, 50, 49, 59, 58, 57, 56, 55, 67, 66], [68, 65, 64, 63, 62, 61, 60, 54, 53, 44, 43, 34, 33, 25, 24, 16, 15, 11, 10, 2, 1, 0, 9, 3, 8, 5, 4, 7, 6, 14, 13, 12, 23, 20, 19, 18, 17, 22, 21, 32, 29, 28, 27, 26, 31, 30, 42, 41, 38, 37, 36, 35, 40, 39, 52, 51, 48, 47, 46, 45, 50, 49, 59, 58, 57, 56, 55, 67, 66], [61, 60, 54, 53, 44, 43, 34, 33, 25, 24, 16, 15, 11, 10, 2, 1, 0, 9, 3, 8, 5, 4, 7, 6, 14, 13, 12, 23, 20, 19, 18, 17, 22, 21, 32, 29, 28, 27, 26, 31, 30, 42, 41, 38, 37, 36, 35, 40, 39, 52, 51, 48, 47, 46, 45, 50, 49, 59, 58, 57, 56, 55, 69, 68, 65, 64, 63, 62, 67, 66]] [0, 1, 2, 3, 4, 5, 6, 7, 8, 9, 10, 11, 12, 13, 14, 15, 16, 17, 18, 19, 20, 21, 22, 23, 24, 25, 26, 27, 28, 29, 30, 31, 32, 33, 34, 35, 36, 37, 38, 39, 40, 41, 42, 43, 44, 45, 46, 47, 48, 49, 50, 51, 52, 53, 54, 55, 56, 57, 58, 59, 60, 61, 62, 63, 64, 65, 66, 67, 68, 69, 70])
  (.cond (.t 138)
   (.seq (.reg [
     ⟨(some 2), none, .f (.mv (.c (.bool false)))⟩])
   .ret)
   .skip))))
  .skip))
 (.seq (.reg [
   ⟨(some 139), none, .f (.mv (.t 0))⟩,
   ⟨(some 140), none, .x (.call 16 [(.t 139)])⟩,
   ⟨(some 15), none, .x (.zero 48 3 [(.int .i64 0), .nilslice, .nilslice])⟩,
   ⟨none, none, .x (.st 3 (.t 15) (.t 140))⟩])
 (.seq (.reg [
   ⟨(some 142), none, .f (.ldA 3 (.t 15))⟩,
   ⟨(some 143), none, .x (.call 17 [(.t 142)])⟩,
   ⟨(some 141), none, .f (.mv (.t 143))⟩,
   ⟨(some 144), none, .f (.ext 0 (.t 141))⟩,
   ⟨(some 145), none, .f (.ext 1 (.t 141))⟩,
   ⟨(some 6), none, .f (.mv (.t 145))⟩])
 (.seq (.reg [
   ⟨(some 147), none, .f (.ldA 3 (.t 15))⟩,
   ⟨(some 148), none, .x (.call 18 [(.t 147)])⟩,
   ⟨(some 146), none, .f (.mv (.t 148))⟩,
   ⟨(some 149), none, .f (.ext 0 (.t 146))⟩,
   ⟨(some 150), none, .f (.ext 1 (.t 146))⟩,
   ⟨(some 7), none, .f (.mv (.t 149))⟩,
   ⟨(some 8), none, .f (.mv (.t 150))⟩])
 (.seq (.seq (.reg [
   ⟨(some 151), none, .f (.mv (.t 8))⟩,
   ⟨(some 152), none, .f (.mv (.t 6))⟩,
   ⟨(some 153), none, .f (.bin .neq (.t 151) (.t 152))⟩])
 (.cond (.t 153)
  (.seq (.reg [
    ⟨(some 2), none, .f (.mv (.c (.bool false)))⟩])
  .ret)
  .skip))
 (.seq (.seq (.reg [
   ⟨(some 154), none, .f (.mv (.t 8))⟩,
   ⟨(some 155), none, .f (.bin .neq (.t 154) (.c (.int .i64 0)))⟩])
 (.cond (.t 155)
  (.seq (.reg [
    ⟨(some 2), none, .f (.mv (.c (.bool true)))⟩])
  .ret)
  .skip))
 (.seq (.reg [
   ⟨(some 157), none, .x (.bslice 5 1 [(.int .u8 0)] 0 [])⟩,
   ⟨(some 158), none, .f (.mv (.t 7))⟩,
   ⟨(some 159), none, .x (.app 5 1 1 (.t 157) (.t 158))⟩,
   ⟨(some 160), none, .f (.mv (.t 7))⟩,
   ⟨(some 161), none, .x (.app 5 1 1 (.t 159) (.t 160))⟩,
   ⟨(some 162), none, .x (.call 19 [(.t 161)])⟩,
   ⟨(some 156), none, .f (.mv (.t 162))⟩,
   ⟨(some 163), none, .f (.ext 0 (.t 156))⟩,
   ⟨(some 164), none, .f (.ext 1 (.t 156))⟩,
   ⟨(some 165), none, .f (.ext 2 (.t 156))⟩,
   ⟨(some 16), none, .f (.mv (.t 163))⟩,
   ⟨(some 17), none, .f (.mv (.t 164))⟩,
   ⟨(some 18), none, .f (.mv (.t 165))⟩])
 (.seq (.dreg [
   ⟨(some 166), none, .f (.mv (.t 18))⟩,
   ⟨(some 167), none, .f (.bin .eql (.t 166) (.c (.int .i64 0)))⟩,
   ⟨(some 168), none, .f (.mv (.t 167))⟩,
   ⟨(some 169), (some (168, true)), .f (.mv (.t 17))⟩,
   ⟨(some 170), (some (168, true)), .f (.mv (.t 7))⟩,
   ⟨(some 171), (some (168, true)), .f (.len (.t 170))⟩,
   ⟨(some 172), (some (168, true)), .f (.bin .mul (.c (.int .i64 2)) (.t 171))⟩,
   ⟨(some 173), (some (168, true)), .f (.bin .eql (.t 169) (.t 172))⟩,
   ⟨(some 174), none, .f (.pick (.t 168) (.t 173) (.c (.bool false)))⟩,
   ⟨(some 175), none, .f (.mv (.t 174))⟩,
   ⟨(some 176), (some (175, true)), .f (.mv (.t 16))⟩,
   ⟨(some 177), (some (175, true)), .f (.len (.t 176))⟩,
   ⟨(some 178), (some (175, true)), .f (.bin .eql (.t 177) (.c (.int .i64 2)))⟩,
   ⟨(some 179), none, .f (.pick (.t 175) (.t 178) (.c (.bool false)))⟩,
   ⟨(some 180), none, .f (.mv (.t 179))⟩,
   ⟨(some 181), (some (180, true)), .f (.mv (.t 16))⟩,
   ⟨(some 182), (some (180, true)), .f (.iadr 3 (.t 181) (.c (.int .i64 1)))⟩,
   ⟨(some 183), (some (180, true)), .f (.fadr 0 (.t 182))⟩,
   ⟨(some 184), (some (180, true)), .f (.ld (.t 183))⟩,
   ⟨(some 185), (some (180, true)), .f (.fadr 0 (.t 15))⟩,
   ⟨(some 186), (some (180, true)), .f (.ld (.t 185))⟩,
   ⟨(some 187), (some (180, true)), .f (.bin .eql (.t 184) (.t 186))⟩,
   ⟨(some 188), none, .f (.pick (.t 180) (.t 187) (.c (.bool false)))⟩,
   ⟨(some 189), none, .f (.mv (.t 188))⟩,
   ⟨(some 190), (some (189, true)), .f (.mv (.t 16))⟩,
   ⟨(some 191), (some (189, true)), .f (.iadr 3 (.t 190) (.c (.int .i64 1)))⟩,
   ⟨(some 192), (some (189, true)), .f (.fadr 1 (.t 191))⟩,
   ⟨(some 193), (some (189, true)), .f (.ld (.t 192))⟩,
   ⟨(some 194), (some (189, true)), .f (.fadr 1 (.t 15))⟩,
   ⟨(some 195), (some (189, true)), .f (.ld (.t 194))⟩,
   ⟨(some 196), (some (189, true)), .x (.call 14 [(.t 193), (.t 195)])⟩,
   ⟨(some 197), none, .f (.pick (.t 189) (.t 196) (.c (.bool false)))⟩,
   ⟨(some 198), none, .f (.mv (.t 197))⟩,
   ⟨(some 199), (some (198, true)), .f (.mv (.t 16))⟩,
   ⟨(some 200), (some (198, true)), .f (.iadr 3 (.t 199) (.c (.int .i64 0)))⟩,
   ⟨(some 201), (some (198, true)), .f (.fadr 2 (.t 200))⟩,
   ⟨(some 202), (some (198, true)), .f (.ld (.t 201))⟩,
   ⟨(some 203), (some (198, true)), .f (.fadr 2 (.t 15))⟩,
   ⟨(some 204), (some (198, true)), .f (.ld (.t 203))⟩,
   ⟨(some 205), (some (198, true)), .x (.call 15 [(.t 202), (.t 204)])⟩,
   ⟨(some 206), none, .f (.pick (.t 198) (.t 205) (.c (.bool false)))⟩,
   ⟨(some 2), none, .f (.mv (.t 206))⟩]
   [false, false, false, false, false, false, false, false, false, false, false, false, false, false, false, false, false, false, false, false, false, false, false, false, false, false, false, false, false, false, true, false, false, false, false, false, false, false, false, true, false, false] [[], [0], [1, 0], [2, 1, 0], [2, 1, 0], [4, 2, 1, 0], [5, 4, 2, 1, 0], [3, 2, 1, 0, 6, 5, 4], [2, 1, 0, 7, 3, 6, 5, 4], [8, 2, 1, 0, 7, 3, 6, 5, 4], [9, 8, 2, 1, 0, 7, 3, 6, 5, 4], [10, 9, 8, 2, 1, 0, 7, 3, 6, 5, 4], [11, 10, 9, 8, 2, 1, 0, 7, 3, 6, 5, 4], [9, 8, 2, 1, 0, 7, 3, 6, 5, 4, 12, 11, 10], [13, 9, 8, 2, 1, 0, 7, 3, 6, 5, 4, 12, 11, 10], [14, 13, 9, 8, 2, 1, 0, 7, 3, 6, 5, 4, 12, 11, 10], [15, 14, 13, 9, 8, 2, 1, 0, 7, 3, 6, 5, 4, 12, 11, 10], [16, 15, 14, 13, 9, 8, 2, 1, 0, 7, 3, 6, 5, 4, 12, 11, 10], [17, 16, 15, 14, 13, 9, 8, 2, 1, 0, 7, 3, 6, 5, 4, 12, 11, 10], [14, 13, 9, 8, 2, 1, 0, 7, 3, 6, 5, 4, 12, 11, 10], [19, 14, 13, 9, 8, 2, 1, 0, 7, 3, 6, 5, 4, 12, 11, 10], [18, 17, 16, 15, 14, 13, 9, 8, 2, 1, 0, 7, 3, 6, 5, 4, 12, 11, 10, 20, 19], [14, 13, 9, 8, 2, 1, 0, 7, 3, 6, 5, 4, 12, 11, 10, 21, 18, 17, 16, 15, 20, 19], [22, 14, 13, 9, 8, 2, 1, 0, 7, 3, 6, 5, 4, 12, 11, 10, 21, 18, 17, 16, 15, 20, 19], [23, 22, 14, 13, 9, 8, 2, 1, 0, 7, 3, 6, 5, 4, 12, 11, 10, 21, 18, 17, 16, 15, 20, 19], [24, 23, 22, 14, 13, 9, 8, 2, 1, 0, 7, 3, 6, 5, 4, 12, 11, 10, 21, 18, 17, 16, 15, 20, 19], [25, 24, 23, 22, 14, 13, 9, 8, 2, 1, 0, 7, 3, 6, 5, 4, 12, 11, 10, 21, 18, 17, 16, 15, 20, 19], [26, 25, 24, 23, 22, 14, 13, 9, 8, 2, 1, 0, 7, 3, 6, 5, 4, 12, 11, 10, 21, 18, 17, 16, 15, 20, 19], [23, 22, 14, 13, 9, 8, 2, 1, 0, 7, 3, 6, 5, 4, 12, 11, 10, 21, 18, 17, 16, 15, 20, 19], [28, 23, 22, 14, 13, 9, 8, 2, 1, 0, 7, 3, 6, 5, 4, 12, 11, 10, 21, 18, 17, 16, 15, 20, 19], [27, 26, 25, 24, 23, 22, 14, 13, 9, 8, 2, 1, 0, 7, 3, 6, 5, 4, 12, 11, 10, 21, 18, 17, 16, 15, 20, 19, 29, 28], [23, 22, 14, 13, 9, 8, 2, 1, 0, 7, 3, 6, 5, 4, 12, 11, 10, 21, 18, 17, 16, 15, 20, 19, 30, 27, 26, 25, 24, 29, 28], [31, 23, 22, 14, 13, 9, 8, 2, 1, 0, 7, 3, 6, 5, 4, 12, 11, 10, 21, 18, 17, 16, 15, 20, 19, 30, 27, 26, 25, 24, 29, 28], [32, 31, 23, 22, 14, 13, 9, 8, 2, 1, 0, 7, 3, 6, 5, 4, 12, 11, 10, 21, 18, 17, 16, 15, 20, 19, 30, 27, 26, 25, 24, 29, 28], [33, 32, 31, 23, 22, 14, 13, 9, 8, 2, 1, 0, 7, 3, 6, 5, 4, 12, 11, 10, 21, 18, 17, 16, 15, 20, 19, 30, 27, 26, 25, 24, 29, 28], [34, 33, 32, 31, 23, 22, 14, 13, 9, 8, 2, 1, 0, 7, 3, 6, 5, 4, 12, 11, 10, 21, 18, 17, 16, 15, 20, 19, 30, 27, 26, 25, 24, 29, 28], [35, 34, 33, 32, 31, 23, 22, 14, 13, 9, 8, 2, 1, 0, 7, 3, 6, 5, 4, 12, 11, 10, 21, 18, 17, 16, 15, 20, 19, 30, 27, 26, 25, 24, 29, 28], [32, 31, 23, 22, 14, 13, 9, 8, 2, 1, 0, 7, 3, 6, 5, 4, 12, 11, 10, 21, 18, 17, 16, 15, 20, 19, 30, 27, 26, 25, 24, 29, 28], [37, 32, 31, 23, 22, 14, 13, 9, 8, 2, 1, 0, 7, 3, 6, 5, 4, 12, 11, 10, 21, 18, 17, 16, 15, 20, 19, 30, 27, 26, 25, 24, 29, 28], [36, 35, 34, 33, 32, 31, 23, 22, 14, 13, 9, 8, 2, 1, 0, 7, 3, 6, 5, 4, 12, 11, 10, 21, 18, 17, 16, 15, 20, 19, 30, 27, 26, 25, 24, 29, 28, 38, 37], [32, 31, 23, 22, 14, 13, 9, 8, 2, 1, 0, 7, 3, 6, 5, 4, 12, 11, 10, 21, 18, 17, 16, 15, 20, 19, 30, 27, 26, 25, 24, 29, 28, 39, 36, 35, 34, 33, 38, 37], [40, 32, 31, 23, 22, 14, 13, 9, 8, 2, 1, 0, 7, 3, 6, 5, 4, 12, 11, 10, 21, 18, 17, 16, 15, 20, 19, 30, 27, 26, 25, 24, 29, 28, 39, 36, 35, 34, 33, 38, 37]] [0, 1, 2, 3, 4, 5, 6, 7, 8, 9, 10, 11, 12, 13, 14, 15, 16, 17, 18, 19, 20, 21, 22, 23, 24, 25, 26, 27, 28, 29, 30, 31, 32, 33, 34, 35, 36, 37, 38, 39, 40, 41])
 .ret))))))))))))))))
theorem ok4 : fnComp Tryz.prog 4 = some (207, c4, [(.mv (.t 2))]) := by kernel_rfl

/-- loop.example/g00003/spec.DrawShowRequest -/
def c10 : CC :=
 (.seq (.reg [
   ⟨(some 2), none, .x (.zero 38 4 [(.str []), (.str []), .nilslice, .nilslice])⟩])
 (.seq (.reg [
   ⟨(some 5), none, .f (.mv (.t 0))⟩,
   ⟨(some 6), none, .x (.call 40 [(.t 5)])⟩,
   ⟨(some 3), none, .x (.zero 95 3 [.nilslice, (.int .i64 0), (.int .u64 0)])⟩,
   ⟨none, none, .x (.st 3 (.t 3) (.t 6))⟩])
 (.seq (.reg [
   ⟨(some 7), none, .x (.call 41 [(.t 3)])⟩,
   ⟨(some 4), none, .x (.zero 38 4 [(.str []), (.str []), .nilslice, .nilslice])⟩,
   ⟨none, none, .x (.st 4 (.t 4) (.t 7))⟩])
 (.seq (.reg [
   ⟨(some 8), none, .f (.fadr 2 (.t 4))⟩,
   ⟨(some 9), none, .f (.ld (.t 8))⟩,
   ⟨(some 10), none, .x (.call 42 [(.t 3), (.t 9)])⟩,
   ⟨(some 11), none, .f (.fadr 2 (.t 4))⟩,
   ⟨none, none, .x (.st 1 (.t 11) (.t 10))⟩])
 (.seq (.seq (.reg [
   ⟨(some 12), none, .x (.call 43 [(.t 3), (.c (.int .i64 20))])⟩])
 (.block 0 (.seq (.reg [
    ⟨(some 14), none, .f (.bin .eql (.t 12) (.c (.int .i64 0)))⟩,
    ⟨(some 13), none, .f (.mv (.t 14))⟩])
  (.cond (.t 13)
   (.reg [
     ⟨(some 15), none, .f (.fadr 0 (.t 4))⟩,
     ⟨none, none, .x (.st 1 (.t 15) (.c (.str [112, 111, 115, 116])))⟩])
   (.seq (.reg [
     ⟨(some 17), none, .f (.bin .eql (.t 12) (.c (.int .i64 1)))⟩,
     ⟨(some 16), none, .f (.mv (.t 17))⟩])
   (.cond (.t 16)
    (.reg [
      ⟨(some 18), none, .f (.fadr 1 (.t 4))⟩,
      ⟨none, none, .x (.st 1 (.t 18) (.c (.str [97])))⟩])
    (.seq (.reg [
      ⟨(some 20), none, .f (.bin .eql (.t 12) (.c (.int .i64 2)))⟩,
      ⟨(some 19), none, .f (.mv (.t 20))⟩])
    (.cond (.t 19)
     (.reg [
       ⟨(some 21), none, .f (.fadr 1 (.t 4))⟩,
       ⟨none, none, .x (.st 1 (.t 21) (.c (.str [47, 97, 32, 98])))⟩])
     (.seq (.reg [
       ⟨(some 23), none, .f (.bin .eql (.t 12) (.c (.int .i64 3)))⟩,
       ⟨(some 22), none, .f (.mv (.t 23))⟩])
     (.cond (.t 22)
      (.reg [
        ⟨(some 24), none, .x (.call 43 [(.t 3), (.c (.int .i64 2))])⟩,
        ⟨(some 25), none, .f (.bin .add (.c (.int .i64 60000)) (.t 24))⟩,
        ⟨(some 26), none, .x (.mks 5 1 1 [(.int .u8 0)] (.t 25) (.t 25))⟩,
        ⟨(some 27), none, .f (.fadr 3 (.t 4))⟩,
        ⟨none, none, .x (.st 1 (.t 27) (.t 26))⟩])
      (.seq (.reg [
        ⟨(some 29), none, .f (.bin .eql (.t 12) (.c (.int .i64 4)))⟩,
        ⟨(some 28), none, .f (.mv (.t 29))⟩])
      (.cond (.t 28)
       (.block 1 (.loop (.seq (.seq (.dreg [
           ⟨(some 30), none, .f (.fadr 1 (.t 4))⟩,
           ⟨(some 31), none, .f (.ld (.t 30))⟩,
           ⟨(some 32), none, .f (.lenS (.t 31))⟩,
           ⟨(some 33), none, .x (.call 43 [(.t 3), (.c (.int .i64 2))])⟩,
           ⟨(some 34), none, .f (.bin .add (.c (.int .i64 200)) (.t 33))⟩,
           ⟨(some 35), none, .f (.bin .lss (.t 32) (.t 34))⟩]
           [false, false, false, true, false, false] [[], [0], [1, 0], [], [3], [2, 1, 0, 4, 3]] [0, 1, 2, 3, 4, 5])
         (.cond (.t 35)
          .skip
          (.exit 1)))
         (.block 2 (.reg [
            ⟨(some 36), none, .f (.fadr 1 (.t 4))⟩,
            ⟨(some 37), none, .f (.ld (.t 36))⟩,
            ⟨(some 38), none, .f (.bin .add (.t 37) (.c (.str [47])))⟩,
            ⟨(some 39), none, .f (.fadr 1 (.t 4))⟩,
            ⟨none, none, .x (.st 1 (.t 39) (.t 38))⟩])))))
       .skip))))))))))))
 (.seq (.reg [
   ⟨(some 40), none, .f (.ldA 4 (.t 4))⟩,
   ⟨none, none, .x (.st 4 (.t 2) (.t 40))⟩])
 .ret))))))
theorem ok10 : fnComp Tryz.prog 10 = some (41, c10, [(.ldA 4 (.t 2))]) := by kernel_rfl

/-- loop.example/g00003/spec.ShowRequest -/
def c11 : CC :=
 (.seq (.reg [
   ⟨(some 1), none, .x (.box 38 4 (.t 0))⟩,
   ⟨(some 2), none, .f (.mv (.c .nilslice))⟩,
   ⟨(some 3), none, .f (.mv (.c (.int .i64 0)))⟩])
 (.seq (.seq (.reg [
   ⟨(some 4), none, .f (.ldA 4 (.t 1))⟩,
   ⟨(some 5), none, .x (.call 44 [(.t 4)])⟩,
   ⟨(some 6), none, .f (.un .not (.t 5))⟩])
 (.cond (.t 6)
  (.seq (.reg [
    ⟨(some 2), none, .f (.mv (.c .nilslice))⟩,
    ⟨(some 3), none, .f (.mv (.c (.int .i64 1)))⟩])
  .ret)
  .skip))
 (.seq (.reg [
   ⟨(some 7), none, .f (.fadr 0 (.t 1))⟩,
   ⟨(some 8), none, .f (.ld (.t 7))⟩,
   ⟨(some 9), none, .f (.bin .add (.t 8) (.c (.str [32])))⟩,
   ⟨(some 10), none, .f (.fadr 1 (.t 1))⟩,
   ⟨(some 11), none, .f (.ld (.t 10))⟩,
   ⟨(some 12), none, .f (.bin .add (.t 9) (.t 11))⟩,
   ⟨(some 13), none, .f (.fadr 2 (.t 1))⟩,
   ⟨(some 14), none, .f (.ld (.t 13))⟩,
   ⟨(some 15), none, .f (.fadr 3 (.t 1))⟩,
   ⟨(some 16), none, .f (.ld (.t 15))⟩,
   ⟨(some 17), none, .x (.call 45 [(.t 12), (.t 14), (.t 16)])⟩,
   ⟨(some 2), none, .f (.mv (.t 17))⟩,
   ⟨(some 3), none, .f (.mv (.c (.int .i64 0)))⟩])
 .ret)))
theorem ok11 : fnComp Tryz.prog 11 = some (18, c11, [(.mv (.t 2)), (.mv (.t 3))]) := by kernel_rfl

/-- loop.example/g00003/impl.ShowRequest -/
def c12 : CC :=
 (.seq (.reg [
   ⟨(some 1), none, .x (.box 38 4 (.t 0))⟩,
   ⟨(some 2), none, .f (.mv (.c .nilslice))⟩,
   ⟨(some 3), none, .f (.mv (.c (.int .i64 0)))⟩])
 (.seq (.seq (.reg [
   ⟨(some 4), none, .f (.ldA 4 (.t 1))⟩,
   ⟨(some 5), none, .x (.call 46 [(.t 4)])⟩,
   ⟨(some 6), none, .f (.un .not (.t 5))⟩])
 (.cond (.t 6)
  (.seq (.reg [
    ⟨(some 2), none, .f (.mv (.c .nilslice))⟩,
    ⟨(some 3), none, .f (.mv (.c (.int .i64 1)))⟩])
  .ret)
  .skip))
 (.seq (.reg [
   ⟨(some 7), none, .f (.fadr 0 (.t 1))⟩,
   ⟨(some 8), none, .f (.ld (.t 7))⟩,
   ⟨(some 9), none, .f (.bin .add (.t 8) (.c (.str [32])))⟩,
   ⟨(some 10), none, .f (.fadr 1 (.t 1))⟩,
   ⟨(some 11), none, .f (.ld (.t 10))⟩,
   ⟨(some 12), none, .f (.bin .add (.t 9) (.t 11))⟩,
   ⟨(some 13), none, .f (.fadr 2 (.t 1))⟩,
   ⟨(some 14), none, .f (.ld (.t 13))⟩,
   ⟨(some 15), none, .f (.fadr 3 (.t 1))⟩,
   ⟨(some 16), none, .f (.ld (.t 15))⟩,
   ⟨(some 17), none, .x (.call 47 [(.t 12), (.t 14), (.t 16)])⟩,
   ⟨(some 2), none, .f (.mv (.t 17))⟩,
   ⟨(some 3), none, .f (.mv (.c (.int .i64 0)))⟩])
 .ret)))
theorem ok12 : fnComp Tryz.prog 12 = some (18, c12, [(.mv (.t 2)), (.mv (.t 3))]) := by kernel_rfl

/-- loop.example/g00003/impl.ReadRequests -/
def c13 : CC :=
 (.seq (.reg [
   ⟨(some 2), none, .f (.mv (.c .nilslice))⟩,
   ⟨(some 3), none, .f (.mv (.c (.int .i64 0)))⟩,
   ⟨(some 4), none, .f (.mv (.c (.int .i64 0)))⟩])
 (.seq (.reg [
   ⟨(some 5), none, .f (.mv (.t 0))⟩,
   ⟨(some 6), none, .x (.call 48 [(.t 5), (.fn 49)])⟩,
   ⟨(some 7), none, .f (.ext 0 (.t 6))⟩,
   ⟨(some 8), none, .f (.ext 1 (.t 6))⟩,
   ⟨(some 9), none, .f (.ext 2 (.t 6))⟩,
   ⟨(some 2), none, .f (.mv (.t 7))⟩,
   ⟨(some 3), none, .f (.mv (.t 8))⟩,
   ⟨(some 4), none, .f (.mv (.t 9))⟩])
 .ret))
theorem ok13 : fnComp Tryz.prog 13 = some (10, c13, [(.mv (.t 2)), (.mv (.t 3)), (.mv (.t 4))]) := by kernel_rfl

/-- loop.example/g00003/laws.lwFields -/
def c14 : CC :=
 (.seq (.reg [
   ⟨(some 4), none, .f (.mv (.c (.bool false)))⟩])
 (.seq (.seq (.reg [
   ⟨(some 6), none, .f (.mv (.t 0))⟩,
   ⟨(some 7), none, .f (.len (.t 6))⟩,
   ⟨(some 8), none, .f (.mv (.t 1))⟩,
   ⟨(some 9), none, .f (.len (.t 8))⟩,
   ⟨(some 10), none, .f (.bin .neq (.t 7) (.t 9))⟩])
 (.cond (.t 10)
  (.seq (.reg [
    ⟨(some 4), none, .f (.mv (.c (.bool false)))⟩])
  .ret)
  .skip))
 (.seq (.seq (.reg [
   ⟨(some 5), none, .f (.mv (.c (.int .i64 0)))⟩])
 (.block 0 (.loop (.seq (.seq (.reg [
     ⟨(some 11), none, .f (.mv (.t 5))⟩,
     ⟨(some 12), none, .f (.mv (.t 0))⟩,
     ⟨(some 13), none, .f (.len (.t 12))⟩,
     ⟨(some 14), none, .f (.bin .lss (.t 11) (.t 13))⟩])
   (.cond (.t 14)
    .skip
    (.exit 0)))
   (.seq (.block 1 (.seq (.dreg [
      ⟨(some 17), none, .f (.mv (.t 0))⟩,
      ⟨(some 18), none, .f (.mv (.t 5))⟩,
      ⟨(some 19), none, .f (.iadr 2 (.t 17) (.t 18))⟩,
      ⟨(some 20), none, .f (.ldA 2 (.t 19))⟩,
      ⟨(some 21), none, .f (.mv (.t 1))⟩,
      ⟨(some 22), none, .f (.mv (.t 5))⟩,
      ⟨(some 23), none, .f (.iadr 2 (.t 21) (.t 22))⟩,
      ⟨(some 24), none, .f (.ldA 2 (.t 23))⟩,
      ⟨(some 25), none, .f (.u (.aeq true [1, 1]) [(.t 20), (.t 24)])⟩]
      [false, false, false, false, false, false, false, false, false] [[], [], [0, 1], [2, 0, 1], [], [], [4, 5], [6, 4, 5], [3, 2, 0, 1, 7, 6, 4, 5]] [0, 1, 2, 3, 4, 5, 6, 7, 8])
    (.cond (.t 25)
     (.seq (.reg [
       ⟨(some 4), none, .f (.mv (.c (.bool false)))⟩])
     .ret)
     .skip)))
   (.reg [
     ⟨(some 15), none, .f (.mv (.t 5))⟩,
     ⟨(some 16), none, .f (.bin .add (.t 15) (.c (.int .i64 1)))⟩,
     ⟨(some 5), none, .f (.mv (.t 16))⟩]))))))
 (.seq (.reg [
   ⟨(some 4), none, .f (.mv (.c (.bool true)))⟩])
 .ret))))
theorem ok14 : fnComp Tryz.prog 14 = some (26, c14, [(.mv (.t 4))]) := by kernel_rfl

/-- loop.example/g00003/laws.lwSame -/
def c15 : CC :=
 (.seq (.reg [
   ⟨(some 4), none, .f (.mv (.c (.bool false)))⟩])
 (.seq (.reg [
   ⟨(some 5), none, .f (.mv (.t 0))⟩,
   ⟨(some 6), none, .f (.b2s (.t 5))⟩,
   ⟨(some 7), none, .f (.mv (.t 1))⟩,
   ⟨(some 8), none, .f (.b2s (.t 7))⟩,
   ⟨(some 9), none, .f (.bin .eql (.t 6) (.t 8))⟩,
   ⟨(some 4), none, .f (.mv (.t 9))⟩])
 .ret))
theorem ok15 : fnComp Tryz.prog 15 = some (10, c15, [(.mv (.t 4))]) := by kernel_rfl

/-- loop.example/g00003/spec.DrawShowReply -/
def c16 : CC :=
 (.seq (.reg [
   ⟨(some 2), none, .x (.zero 48 3 [(.int .i64 0), .nilslice, .nilslice])⟩])
 (.seq (.reg [
   ⟨(some 5), none, .f (.mv (.t 0))⟩,
   ⟨(some 6), none, .x (.call 40 [(.t 5)])⟩,
   ⟨(some 3), none, .x (.zero 95 3 [.nilslice, (.int .i64 0), (.int .u64 0)])⟩,
   ⟨none, none, .x (.st 3 (.t 3) (.t 6))⟩])
 (.seq (.reg [
   ⟨(some 7), none, .x (.call 43 [(.t 3), (.c (.int .i64 300))])⟩,
   ⟨(some 8), none, .f (.bin .add (.c (.int .i64 200)) (.t 7))⟩,
   ⟨(some 9), none, .x (.call 50 [(.t 3), (.c .nilslice)])⟩,
   ⟨(some 10), none, .x (.call 42 [(.t 3), (.t 9)])⟩,
   ⟨(some 11), none, .x (.call 51 [(.t 3)])⟩,
   ⟨(some 12), none, .f (.build [(.int .i64 0), .nilslice, .nilslice] [(0, 1, (.t 8)), (1, 1, (.t 10)), (2, 1, (.t 11))])⟩,
   ⟨(some 4), none, .x (.zero 48 3 [(.int .i64 0), .nilslice, .nilslice])⟩,
   ⟨none, none, .x (.st 3 (.t 4) (.t 12))⟩])
 (.seq (.seq (.reg [
   ⟨(some 13), none, .x (.call 43 [(.t 3), (.c (.int .i64 8))])⟩,
   ⟨(some 14), none, .f (.bin .eql (.t 13) (.c (.int .i64 0)))⟩])
 (.cond (.t 14)
  (.reg [
    ⟨(some 15), none, .x (.bslice 2 1 [(.int .i64 0)] 4 [(0, (.c (.int .i64 99))), (1, (.c (.int .i64 100))), (2, (.c (.int .i64 999))), (3, (.c (.int .i64 1000)))])⟩,
    ⟨(some 16), none, .x (.call 43 [(.t 3), (.c (.int .i64 4))])⟩,
    ⟨(some 17), none, .f (.iadr 1 (.t 15) (.t 16))⟩,
    ⟨(some 18), none, .f (.ld (.t 17))⟩,
    ⟨(some 19), none, .f (.fadr 0 (.t 4))⟩,
    ⟨none, none, .x (.st 1 (.t 19) (.t 18))⟩])
  .skip))
 (.seq (.reg [
   ⟨(some 20), none, .f (.ldA 3 (.t 4))⟩,
   ⟨none, none, .x (.st 3 (.t 2) (.t 20))⟩])
 .ret)))))
theorem ok16 : fnComp Tryz.prog 16 = some (21, c16, [(.ldA 3 (.t 2))]) := by kernel_rfl

/-- loop.example/g00003/spec.ShowReply -/
def c17 : CC :=
 (.seq (.reg [
   ⟨(some 1), none, .x (.box 48 3 (.t 0))⟩,
   ⟨(some 2), none, .f (.mv (.c .nilslice))⟩,
   ⟨(some 3), none, .f (.mv (.c (.int .i64 0)))⟩])
 (.seq (.seq (.reg [
   ⟨(some 4), none, .f (.ldA 3 (.t 1))⟩,
   ⟨(some 5), none, .x (.call 52 [(.t 4)])⟩,
   ⟨(some 6), none, .f (.un .not (.t 5))⟩])
 (.cond (.t 6)
  (.seq (.reg [
    ⟨(some 2), none, .f (.mv (.c .nilslice))⟩,
    ⟨(some 3), none, .f (.mv (.c (.int .i64 1)))⟩])
  .ret)
  .skip))
 (.seq (.dreg [
   ⟨(some 7), none, .f (.fadr 0 (.t 1))⟩,
   ⟨(some 8), none, .f (.ld (.t 7))⟩,
   ⟨(some 9), none, .x (.call 25 [(.t 8)])⟩,
   ⟨(some 10), none, .f (.bin .add (.c (.str [114, 101, 112, 108, 121, 32])) (.t 9))⟩,
   ⟨(some 11), none, .f (.fadr 1 (.t 1))⟩,
   ⟨(some 12), none, .f (.ld (.t 11))⟩,
   ⟨(some 13), none, .f (.fadr 2 (.t 1))⟩,
   ⟨(some 14), none, .f (.ld (.t 13))⟩,
   ⟨(some 15), none, .x (.call 45 [(.t 10), (.t 12), (.t 14)])⟩,
   ⟨(some 2), none, .f (.mv (.t 15))⟩,
   ⟨(some 3), none, .f (.mv (.c (.int .i64 0)))⟩]
   [false, false, true, false, false, false, false, false, true, false, false] [[], [0], [1, 0], [2, 1, 0], [], [4], [], [6], [3, 2, 1, 0, 5, 4, 7, 6], [8, 3, 2, 1, 0, 5, 4, 7, 6], [9, 8, 3, 2, 1, 0, 5, 4, 7, 6]] [0, 1, 4, 5, 6, 7, 2, 3, 8, 9, 10])
 .ret)))
theorem ok17 : fnComp Tryz.prog 17 = some (16, c17, [(.mv (.t 2)), (.mv (.t 3))]) := by kernel_rfl

/-- loop.example/g00003/impl.ShowReply -/
def c18 : CC :=
 (.seq (.reg [
   ⟨(some 1), none, .x (.box 48 3 (.t 0))⟩,
   ⟨(some 2), none, .f (.mv (.c .nilslice))⟩,
   ⟨(some 3), none, .f (.mv (.c (.int .i64 0)))⟩])
 (.seq (.seq (.reg [
   ⟨(some 4), none, .f (.ldA 3 (.t 1))⟩,
   ⟨(some 5), none, .x (.call 53 [(.t 4)])⟩,
   ⟨(some 6), none, .f (.un .not (.t 5))⟩])
 (.cond (.t 6)
  (.seq (.reg [
    ⟨(some 2), none, .f (.mv (.c .nilslice))⟩,
    ⟨(some 3), none, .f (.mv (.c (.int .i64 1)))⟩])
  .ret)
  .skip))
 (.seq (.dreg [
   ⟨(some 7), none, .f (.fadr 0 (.t 1))⟩,
   ⟨(some 8), none, .f (.ld (.t 7))⟩,
   ⟨(some 9), none, .x (.call 31 [(.t 8)])⟩,
   ⟨(some 10), none, .f (.bin .add (.c (.str [114, 101, 112, 108, 121, 32])) (.t 9))⟩,
   ⟨(some 11), none, .f (.fadr 1 (.t 1))⟩,
   ⟨(some 12), none, .f (.ld (.t 11))⟩,
   ⟨(some 13), none, .f (.fadr 2 (.t 1))⟩,
   ⟨(some 14), none, .f (.ld (.t 13))⟩,
   ⟨(some 15), none, .x (.call 47 [(.t 10), (.t 12), (.t 14)])⟩,
   ⟨(some 2), none, .f (.mv (.t 15))⟩,
   ⟨(some 3), none, .f (.mv (.c (.int .i64 0)))⟩]
   [false, false, true, false, false, false, false, false, true, false, false] [[], [0], [1, 0], [2, 1, 0], [], [4], [], [6], [3, 2, 1, 0, 5, 4, 7, 6], [8, 3, 2, 1, 0, 5, 4, 7, 6], [9, 8, 3, 2, 1, 0, 5, 4, 7, 6]] [0, 1, 4, 5, 6, 7, 2, 3, 8, 9, 10])
 .ret)))
theorem ok18 : fnComp Tryz.prog 18 = some (16, c18, [(.mv (.t 2)), (.mv (.t 3))]) := by kernel_rfl

/-- loop.example/g00003/impl.ReadReplies -/
def c19 : CC :=
 (.seq (.reg [
   ⟨(some 2), none, .f (.mv (.c .nilslice))⟩,
   ⟨(some 3), none, .f (.mv (.c (.int .i64 0)))⟩,
   ⟨(some 4), none, .f (.mv (.c (.int .i64 0)))⟩])
 (.seq (.reg [
   ⟨(some 5), none, .f (.mv (.t 0))⟩,
   ⟨(some 6), none, .x (.call 54 [(.t 5), (.fn 55)])⟩,
   ⟨(some 7), none, .f (.ext 0 (.t 6))⟩,
   ⟨(some 8), none, .f (.ext 1 (.t 6))⟩,
   ⟨(some 9), none, .f (.ext 2 (.t 6))⟩,
   ⟨(some 2), none, .f (.mv (.t 7))⟩,
   ⟨(some 3), none, .f (.mv (.t 8))⟩,
   ⟨(some 4), none, .f (.mv (.t 9))⟩])
 .ret))
theorem ok19 : fnComp Tryz.prog 19 = some (10, c19, [(.mv (.t 2)), (.mv (.t 3)), (.mv (.t 4))]) := by kernel_rfl

/-- loop.example/g00003/spec.l02Dec -/
def c25 : CC :=
 (.seq (.reg [
   ⟨(some 2), none, .f (.mv (.c (.str [])))⟩])
 (.seq (.seq (.reg [
   ⟨(some 3), none, .f (.mv (.t 0))⟩,
   ⟨(some 4), none, .f (.bin .lss (.t 3) (.c (.int .i64 10)))⟩])
 (.cond (.t 4)
  (.seq (.reg [
    ⟨(some 5), none, .f (.mv (.t 0))⟩,
    ⟨(some 6), none, .f (.bin .add (.c (.int .i64 48)) (.t 5))⟩,
    ⟨(some 7), none, .f (.cvI .u8 (.t 6))⟩,
    ⟨(some 8), none, .x (.bslice 5 1 [(.int .u8 0)] 1 [(0, (.t 7))])⟩,
    ⟨(some 9), none, .f (.b2s (.t 8))⟩,
    ⟨(some 2), none, .f (.mv (.t 9))⟩])
  .ret)
  .skip))
 (.seq (.treg [
   ⟨(some 10), none, .f (.mv (.t 0))⟩,
   ⟨(some 11), none, .f (.bin .quo (.t 10) (.c (.int .i64 10)))⟩,
   ⟨(some 12), none, .x (.call 25 [(.t 11)])⟩,
   ⟨(some 13), none, .f (.mv (.t 0))⟩,
   ⟨(some 14), none, .f (.bin .rem (.t 13) (.c (.int .i64 10)))⟩,
   ⟨(some 15), none, .f (.bin .add (.c (.int .i64 48)) (.t 14))⟩,
   ⟨(some 16), none, .f (.cvI .u8 (.t 15))⟩,
   ⟨(some 17), none, .x (.bslice 5 1 [(.int .u8 0)] 1 [(0, (.t 16))])⟩,
   ⟨(some 18), none, .f (.b2s (.t 17))⟩,
   ⟨(some 19), none, .f (.bin .add (.t 12) (.t 18))⟩,
   ⟨(some 2), none, .f (.mv (.t 19))⟩]
   [[], [0], [1, 0], [], [3], [4, 3], [5, 4, 3], [6, 5, 4, 3], [7, 6, 5, 4, 3], [2, 1, 0, 8, 7, 6, 5, 4, 3], [9, 2, 1, 0, 8, 7, 6, 5, 4, 3]] (.fl 0 (.fl 1 (.fl 3 (.fl 4 (.fl 5 (.fl 6 (.br 2 (.br 7 (.fl 8 (.fl 9 (.fl 10 .fin))) .stop) (.br 7 (.fl 8 (.br 2 (.fl 9 (.fl 10 .fin)) .stop)) .stop)))))))))
 .ret)))
theorem ok25 : fnComp Tryz.prog 25 = some (20, c25, [(.mv (.t 2))]) := by kernel_rfl

/-- loop.example/g00003/impl.num -/
def c31 : CC :=
 (.seq (.reg [
   ⟨(some 2), none, .f (.mv (.c (.str [])))⟩])
 (.seq (.reg [
   ⟨(some 3), none, .f (.mv (.t 0))⟩,
   ⟨(some 4), none, .x (.call 68 [(.t 3), (.c (.int .i64 10))])⟩,
   ⟨(some 2), none, .f (.mv (.t 4))⟩])
 .ret))
theorem ok31 : fnComp Tryz.prog 31 = some (5, c31, [(.mv (.t 2))]) := by kernel_rfl

/-- loop.example/g00003/spec.l01Begin -/
def c40 : CC :=
 (.seq (.reg [
   ⟨(some 2), none, .x (.zero 95 3 [.nilslice, (.int .i64 0), (.int .u64 0)])⟩])
 (.seq (.reg [
   ⟨(some 5), none, .f (.mv (.t 0))⟩,
   ⟨(some 6), none, .f (.build [.nilslice, (.int .i64 0), (.int .u64 0)] [(0, 1, (.t 5))])⟩,
   ⟨(some 3), none, .x (.zero 95 3 [.nilslice, (.int .i64 0), (.int .u64 0)])⟩,
   ⟨none, none, .x (.st 3 (.t 3) (.t 6))⟩])
 (.seq (.reg [
   ⟨(some 7), none, .f (.fadr 2 (.t 3))⟩,
   ⟨none, none, .x (.st 1 (.t 7) (.c (.int .u64 1469598103934665603)))⟩])
 (.seq (.seq (.reg [
   ⟨(some 4), none, .f (.mv (.c (.int .i64 0)))⟩])
 (.block 0 (.loop (.seq (.seq (.reg [
     ⟨(some 8), none, .f (.mv (.t 4))⟩,
     ⟨(some 9), none, .f (.mv (.t 0))⟩,
     ⟨(some 10), none, .f (.len (.t 9))⟩,
     ⟨(some 11), none, .f (.bin .lss (.t 8) (.t 10))⟩])
   (.cond (.t 11)
    .skip
    (.exit 0)))
   (.seq (.block 1 (.dreg [
      ⟨(some 14), none, .f (.fadr 2 (.t 3))⟩,
      ⟨(some 15), none, .f (.ld (.t 14))⟩,
      ⟨(some 16), none, .f (.mv (.t 0))⟩,
      ⟨(some 17), none, .f (.mv (.t 4))⟩,
      ⟨(some 18), none, .f (.iadr 1 (.t 16) (.t 17))⟩,
      ⟨(some 19), none, .f (.ld (.t 18))⟩,
      ⟨(some 20), none, .f (.cvI .u64 (.t 19))⟩,
      ⟨(some 21), none, .f (.bin .xor (.t 15) (.t 20))⟩,
      ⟨(some 22), none, .f (.bin .mul (.t 21) (.c (.int .u64 1099511628211)))⟩,
      ⟨(some 23), none, .f (.fadr 2 (.t 3))⟩,
      ⟨none, none, .x (.st 1 (.t 23) (.t 22))⟩]
      [false, false, false, false, false, false, false, false, false, false, true] [[], [0], [], [], [2, 3], [4, 2, 3], [5, 4, 2, 3], [1, 0, 6, 5, 4, 2, 3], [7, 1, 0, 6, 5, 4, 2, 3], [0, 1, 2, 3, 4, 5, 6, 7, 8], [9, 0, 1, 2, 3, 4, 5, 6, 7, 8]] [0, 1, 2, 3, 4, 5, 6, 7, 8, 9, 10]))
   (.reg [
     ⟨(some 12), none, .f (.mv (.t 4))⟩,
     ⟨(some 13), none, .f (.bin .add (.t 12) (.c (.int .i64 1)))⟩,
     ⟨(some 4), none, .f (.mv (.t 13))⟩]))))))
 (.seq (.reg [
   ⟨(some 24), none, .f (.ldA 3 (.t 3))⟩,
   ⟨none, none, .x (.st 3 (.t 2) (.t 24))⟩])
 .ret)))))
theorem ok40 : fnComp Tryz.prog 40 = some (25, c40, [(.ldA 3 (.t 2))]) := by kernel_rfl

/-- loop.example/g00003/spec.l20Request -/
def c41 : CC :=
 (.seq (.reg [
   ⟨(some 2), none, .x (.zero 38 4 [(.str []), (.str []), .nilslice, .nilslice])⟩])
 (.seq (.treg [
   ⟨(some 4), none, .x (.bslice 9 1 [(.str [])] 6 [(0, (.c (.str [103, 101, 116]))), (1, (.c (.str [103, 101, 116]))), (2, (.c (.str [112, 117, 116]))), (3, (.c (.str [112, 117, 116]))), (4, (.c (.str [100, 101, 108, 101, 116, 101]))), (5, (.c (.str [108, 105, 115, 116])))])⟩,
   ⟨(some 5), none, .f (.mv (.t 0))⟩,
   ⟨(some 6), none, .x (.call 43 [(.t 5), (.c (.int .i64 6))])⟩,
   ⟨(some 7), none, .f (.iadr 1 (.t 4) (.t 6))⟩,
   ⟨(some 8), none, .f (.ld (.t 7))⟩,
   ⟨(some 9), none, .f (.mv (.t 0))⟩,
   ⟨(some 10), none, .x (.call 75 [(.t 9)])⟩,
   ⟨(some 11), none, .f (.mv (.t 0))⟩,
   ⟨(some 12), none, .x (.call 51 [(.t 11)])⟩,
   ⟨(some 13), none, .f (.build [(.str []), (.str []), .nilslice, .nilslice] [(0, 1, (.t 8)), (1, 1, (.t 10)), (3, 1, (.t 12))])⟩,
   ⟨(some 3), none, .x (.zero 38 4 [(.str []), (.str []), .nilslice, .nilslice])⟩,
   ⟨none, none, .x (.st 4 (.t 3) (.t 13))⟩]
   [[], [], [1], [0, 2, 1], [3, 0, 2, 1], [], [5, 2, 1], [], [7, 6, 5, 2, 1], [4, 3, 0, 2, 1, 6, 5, 8, 7], [], [10, 9, 4, 3, 0, 2, 1, 6, 5, 8, 7]] (.fl 1 (.fl 5 (.fl 7 (.br 0 (.br 2 (.fl 3 (.fl 4 (.br 6 (.br 8 (.fl 9 (.br 10 (.br 11 .fin .stop) .stop)) (.br 10 (.br 8 (.fl 9 (.br 11 .fin .stop)) .stop) .stop)) (.br 10 (.br 6 (.br 8 (.fl 9 (.br 11 .fin .stop)) .stop) .stop) .stop)))) (.br 10 (.br 2 (.fl 3 (.fl 4 (.br 6 (.br 8 (.fl 9 (.br 11 .fin .stop)) .stop) .stop))) .stop) .stop)) (.br 2 (.br 0 (.fl 3 (.fl 4 (.br 6 (.br 8 (.fl 9 (.br 10 (.br 11 .fin .stop) .stop)) (.br 10 (.br 8 (.fl 9 (.br 11 .fin .stop)) .stop) .stop)) (.br 10 (.br 6 (.br 8 (.fl 9 (.br 11 .fin .stop)) .stop) .stop) .stop)))) (.br 6 (.br 0 (.fl 3 (.fl 4 (.br 8 (.fl 9 (.br 10 (.br 11 .fin .stop) .stop)) (.br 10 (.br 8 (.fl 9 (.br 11 .fin .stop)) .stop) .stop)))) (.br 8 (.br 0 (.fl 3 (.fl 4 (.fl 9 (.br 10 (.br 11 .fin .stop) .stop)))) (.br 10 (.br 0 (.fl 3 (.fl 4 (.fl 9 (.br 11 .fin .stop)))) .stop) .stop)) (.br 10 (.br 0 (.fl 3 (.fl 4 (.br 8 (.fl 9 (.br 11 .fin .stop)) .stop))) (.br 8 (.br 0 (.fl 3 (.fl 4 (.fl 9 (.br 11 .fin .stop)))) .stop) .stop)) .stop))) (.br 10 (.br 0 (.fl 3 (.fl 4 (.br 6 (.br 8 (.fl 9 (.br 11 .fin .stop)) .stop) .stop))) (.br 6 (.br 0 (.fl 3 (.fl 4 (.br 8 (.fl 9 (.br 11 .fin .stop)) .stop))) (.br 8 (.br 0 (.fl 3 (.fl 4 (.fl 9 (.br 11 .fin .stop)))) .stop) .stop)) .stop)) .stop))) (.br 10 (.br 0 (.br 2 (.fl 3 (.fl 4 (.br 6 (.br 8 (.fl 9 (.br 11 .fin .stop)) .stop) .stop))) .stop) (.br 2 (.br 0 (.fl 3 (.fl 4 (.br 6 (.br 8 (.fl 9 (.br 11 .fin .stop)) .stop) .stop))) (.br 6 (.br 0 (.fl 3 (.fl 4 (.br 8 (.fl 9 (.br 11 .fin .stop)) .stop))) (.br 8 (.br 0 (.fl 3 (.fl 4 (.fl 9 (.br 11 .fin .stop)))) .stop) .stop)) .stop)) .stop)) .stop)))))))
 (.seq (.seq (.reg [
   ⟨(some 14), none, .f (.fadr 0 (.t 3))⟩,
   ⟨(some 15), none, .f (.ld (.t 14))⟩,
   ⟨(some 16), none, .f (.bin .eql (.t 15) (.c (.str [103, 101, 116])))⟩,
   ⟨(some 17), none, .f (.mv (.t 16))⟩,
   ⟨(some 18), (some (17, true)), .f (.mv (.t 0))⟩,
   ⟨(some 19), (some (17, true)), .x (.call 76 [(.t 18)])⟩,
   ⟨(some 20), none, .f (.pick (.t 17) (.t 19) (.c (.bool false)))⟩])
 (.cond (.t 20)
  (.reg [
    ⟨(some 21), none, .f (.fadr 3 (.t 3))⟩,
    ⟨none, none, .x (.st 1 (.t 21) (.c .nilslice))⟩])
  .skip))
 (.seq (.reg [
   ⟨(some 22), none, .f (.mv (.t 0))⟩,
   ⟨(some 23), none, .f (.mv (.t 0))⟩,
   ⟨(some 24), none, .x (.call 51 [(.t 23)])⟩,
   ⟨(some 25), none, .x (.call 50 [(.t 22), (.t 24)])⟩,
   ⟨(some 26), none, .f (.fadr 2 (.t 3))⟩,
   ⟨none, none, .x (.st 1 (.t 26) (.t 25))⟩])
 (.seq (.reg [
   ⟨(some 27), none, .f (.ldA 4 (.t 3))⟩,
   ⟨none, none, .x (.st 4 (.t 2) (.t 27))⟩])
 .ret)))))
theorem ok41 : fnComp Tryz.prog 41 = some (28, c41, [(.ldA 4 (.t 2))]) := by kernel_rfl

/-- loop.example/g00003/spec.l20Bend -/
def c42 : CC :=
 (.seq (.reg [
   ⟨(some 4), none, .f (.mv (.c .nilslice))⟩])
 (.seq (.reg [
   ⟨(some 7), none, .f (.build [(.str []), (.str [])] [(0, 1, (.c (.str [113]))), (1, 1, (.c (.str [118])))])⟩,
   ⟨(some 5), none, .x (.zero 106 2 [(.str []), (.str [])])⟩,
   ⟨none, none, .x (.st 2 (.t 5) (.t 7))⟩])
 (.seq (.seq (.reg [
   ⟨(some 8), none, .f (.mv (.t 0))⟩,
   ⟨(some 9), none, .x (.call 43 [(.t 8), (.c (.int .i64 14))])⟩])
 (.block 0 (.seq (.reg [
    ⟨(some 12), none, .f (.bin .eql (.t 9) (.c (.int .i64 0)))⟩,
    ⟨(some 11), none, .f (.mv (.t 12))⟩])
  (.cond (.t 11)
   (.reg [
     ⟨(some 13), none, .f (.fadr 0 (.t 5))⟩,
     ⟨none, none, .x (.st 1 (.t 13) (.c (.str [108, 101, 110, 103, 116, 104])))⟩])
   (.seq (.reg [
     ⟨(some 15), none, .f (.bin .eql (.t 9) (.c (.int .i64 1)))⟩,
     ⟨(some 14), none, .f (.mv (.t 15))⟩])
   (.cond (.t 14)
    (.reg [
      ⟨(some 16), none, .f (.fadr 0 (.t 5))⟩,
      ⟨none, none, .x (.st 1 (.t 16) (.c (.str [66, 105, 103])))⟩])
    (.seq (.reg [
      ⟨(some 18), none, .f (.bin .eql (.t 9) (.c (.int .i64 2)))⟩,
      ⟨(some 17), none, .f (.mv (.t 18))⟩])
    (.cond (.t 17)
     (.reg [
       ⟨(some 19), none, .f (.fadr 1 (.t 5))⟩,
       ⟨none, none, .x (.st 1 (.t 19) (.c (.str [32, 120])))⟩])
     (.seq (.reg [
       ⟨(some 21), none, .f (.bin .eql (.t 9) (.c (.int .i64 3)))⟩,
       ⟨(some 20), none, .f (.mv (.t 21))⟩])
     (.cond (.t 20)
      (.reg [
        ⟨(some 22), none, .f (.fadr 1 (.t 5))⟩,
        ⟨none, none, .x (.st 1 (.t 22) (.c (.str [120, 10])))⟩])
      (.seq (.reg [
        ⟨(some 24), none, .f (.bin .eql (.t 9) (.c (.int .i64 4)))⟩,
        ⟨(some 23), none, .f (.mv (.t 24))⟩])
      (.cond (.t 23)
       (.reg [
         ⟨(some 25), none, .x (.mks 5 1 1 [(.int .u8 0)] (.c (.int .i64 3)) (.c (.int .i64 3)))⟩,
         ⟨(some 26), none, .f (.b2s (.t 25))⟩,
         ⟨(some 27), none, .f (.fadr 1 (.t 5))⟩,
         ⟨none, none, .x (.st 1 (.t 27) (.t 26))⟩])
       (.seq (.reg [
         ⟨(some 29), none, .f (.bin .eql (.t 9) (.c (.int .i64 5)))⟩,
         ⟨(some 28), none, .f (.mv (.t 29))⟩])
       (.cond (.t 28)
        (.seq (.reg [
          ⟨(some 30), none, .x (.bslice 106 2 [(.str []), (.str [])] 0 [])⟩,
          ⟨(some 6), none, .f (.mv (.t 30))⟩])
        (.seq (.block 1 (.loop (.seq (.seq (.reg [
            ⟨(some 31), none, .f (.mv (.t 6))⟩,
            ⟨(some 32), none, .f (.len (.t 31))⟩,
            ⟨(some 33), none, .f (.mv (.t 0))⟩,
            ⟨(some 34), none, .x (.call 43 [(.t 33), (.c (.int .i64 2))])⟩,
            ⟨(some 35), none, .f (.bin .add (.c (.int .i64 16)) (.t 34))⟩,
            ⟨(some 36), none, .f (.bin .lss (.t 32) (.t 35))⟩])
          (.cond (.t 36)
           .skip
           (.exit 1)))
          (.block 2 (.reg [
             ⟨(some 37), none, .f (.mv (.t 6))⟩,
             ⟨(some 38), none, .f (.ldA 2 (.t 5))⟩,
             ⟨(some 39), none, .x (.bslice 106 2 [(.str []), (.str [])] 1 [(0, (.t 38))])⟩,
             ⟨(some 40), none, .x (.app 106 2 32 (.t 37) (.t 39))⟩,
             ⟨(some 6), none, .f (.mv (.t 40))⟩])))))
        (.seq (.reg [
          ⟨(some 41), none, .f (.mv (.t 6))⟩,
          ⟨(some 4), none, .f (.mv (.t 41))⟩])
        .ret)))
        (.seq (.reg [
          ⟨(some 43), none, .f (.bin .eql (.t 9) (.c (.int .i64 6)))⟩,
          ⟨(some 42), none, .f (.mv (.t 43))⟩])
        (.cond (.t 42)
         (.reg [
           ⟨(some 44), none, .x (.bslice 5 1 [(.int .u8 0)] 3 [(0, (.c (.int .u8 126))), (1, (.c (.int .u8 32))), (2, (.c (.int .u8 126)))])⟩,
           ⟨(some 45), none, .f (.b2s (.t 44))⟩,
           ⟨(some 46), none, .f (.fadr 1 (.t 5))⟩,
           ⟨none, none, .x (.st 1 (.t 46) (.t 45))⟩])
         (.seq (.reg [
           ⟨(some 10), none, .f (.mv (.t 1))⟩,
           ⟨(some 4), none, .f (.mv (.t 10))⟩])
         .ret)))))))))))))))))
 (.seq (.reg [
   ⟨(some 47), none, .f (.ldA 2 (.t 5))⟩,
   ⟨(some 48), none, .x (.bslice 106 2 [(.str []), (.str [])] 1 [(0, (.t 47))])⟩,
   ⟨(some 49), none, .f (.mv (.t 1))⟩,
   ⟨(some 50), none, .x (.app 106 2 32 (.t 48) (.t 49))⟩,
   ⟨(some 4), none, .f (.mv (.t 50))⟩])
 .ret))))
theorem ok42 : fnComp Tryz.prog 42 = some (51, c42, [(.mv (.t 4))]) := by kernel_rfl

/-- loop.example/g00003/spec.l01Next -/
def c43 : CC :=
 (.seq (.reg [
   ⟨(some 4), none, .f (.mv (.c (.int .i64 0)))⟩])
 (.seq (.seq (.reg [
   ⟨(some 6), none, .f (.mv (.t 1))⟩,
   ⟨(some 7), none, .f (.bin .leq (.t 6) (.c (.int .i64 0)))⟩])
 (.cond (.t 7)
  (.seq (.reg [
    ⟨(some 4), none, .f (.mv (.c (.int .i64 0)))⟩])
  .ret)
  .skip))
 (.seq (.reg [
   ⟨(some 8), none, .f (.mv (.t 0))⟩,
   ⟨(some 9), none, .f (.mv (.t 0))⟩,
   ⟨(some 10), none, .f (.nck (.t 9))⟩,
   ⟨(some 11), none, .f (.fadr 2 (.t 10))⟩,
   ⟨(some 12), none, .f (.ld (.t 11))⟩,
   ⟨(some 13), none, .f (.bin .mul (.t 12) (.c (.int .u64 6364136223846793005)))⟩,
   ⟨(some 14), none, .f (.bin .add (.t 13) (.c (.int .u64 1442695040888963407)))⟩,
   ⟨(some 15), none, .f (.nck (.t 8))⟩,
   ⟨(some 16), none, .f (.fadr 2 (.t 15))⟩,
   ⟨none, none, .x (.st 1 (.t 16) (.t 14))⟩])
 (.seq (.reg [
   ⟨(some 17), none, .f (.mv (.t 0))⟩,
   ⟨(some 18), none, .f (.nck (.t 17))⟩,
   ⟨(some 19), none, .f (.fadr 2 (.t 18))⟩,
   ⟨(some 20), none, .f (.ld (.t 19))⟩,
   ⟨(some 21), none, .f (.bin .shr (.t 20) (.c (.int .u64 33)))⟩,
   ⟨(some 5), none, .f (.mv (.t 21))⟩])
 (.seq (.seq (.dreg [
   ⟨(some 22), none, .f (.mv (.t 0))⟩,
   ⟨(some 23), none, .f (.nck (.t 22))⟩,
   ⟨(some 24), none, .f (.fadr 1 (.t 23))⟩,
   ⟨(some 25), none, .f (.ld (.t 24))⟩,
   ⟨(some 26), none, .f (.mv (.t 0))⟩,
   ⟨(some 27), none, .f (.nck (.t 26))⟩,
   ⟨(some 28), none, .f (.fadr 0 (.t 27))⟩,
   ⟨(some 29), none, .f (.ld (.t 28))⟩,
   ⟨(some 30), none, .f (.len (.t 29))⟩,
   ⟨(some 31), none, .f (.bin .lss (.t 25) (.t 30))⟩]
   [false, false, false, false, false, false, false, false, false, false] [[], [0], [1, 0], [2, 1, 0], [], [4], [5, 4], [6, 5, 4], [7, 6, 5, 4], [3, 2, 1, 0, 8, 7, 6, 5, 4]] [0, 1, 2, 3, 4, 5, 6, 7, 8, 9])
 (.cond (.t 31)
  (.seq (.dreg [
    ⟨(some 32), none, .f (.mv (.t 5))⟩,
    ⟨(some 33), none, .f (.mv (.t 0))⟩,
    ⟨(some 34), none, .f (.nck (.t 33))⟩,
    ⟨(some 35), none, .f (.fadr 0 (.t 34))⟩,
    ⟨(some 36), none, .f (.ld (.t 35))⟩,
    ⟨(some 37), none, .f (.mv (.t 0))⟩,
    ⟨(some 38), none, .f (.nck (.t 37))⟩,
    ⟨(some 39), none, .f (.fadr 1 (.t 38))⟩,
    ⟨(some 40), none, .f (.ld (.t 39))⟩,
    ⟨(some 41), none, .f (.iadr 1 (.t 36) (.t 40))⟩,
    ⟨(some 42), none, .f (.ld (.t 41))⟩,
    ⟨(some 43), none, .f (.cvI .u64 (.t 42))⟩,
    ⟨(some 44), none, .f (.bin .xor (.t 32) (.t 43))⟩,
    ⟨(some 5), none, .f (.mv (.t 44))⟩]
    [false, false, false, false, false, false, false, false, false, false, false, false, false, true] [[], [], [1], [2, 1], [3, 2, 1], [], [5], [6, 5], [7, 6, 5], [4, 3, 2, 1, 8, 7, 6, 5], [9, 4, 3, 2, 1, 8, 7, 6, 5], [10, 9, 4, 3, 2, 1, 8, 7, 6, 5], [0, 11, 10, 9, 4, 3, 2, 1, 8, 7, 6, 5], [12, 0, 11, 10, 9, 4, 3, 2, 1, 8, 7, 6, 5]] [0, 1, 2, 3, 4, 5, 6, 7, 8, 9, 10, 11, 12, 13])
  (.reg [
    ⟨(some 45), none, .f (.mv (.t 0))⟩,
    ⟨(some 46), none, .f (.mv (.t 0))⟩,
    ⟨(some 47), none, .f (.nck (.t 46))⟩,
    ⟨(some 48), none, .f (.fadr 1 (.t 47))⟩,
    ⟨(some 49), none, .f (.ld (.t 48))⟩,
    ⟨(some 50), none, .f (.bin .add (.t 49) (.c (.int .i64 1)))⟩,
    ⟨(some 51), none, .f (.nck (.t 45))⟩,
    ⟨(some 52), none, .f (.fadr 1 (.t 51))⟩,
    ⟨none, none, .x (.st 1 (.t 52) (.t 50))⟩]))
  .skip))
 (.seq (.reg [
   ⟨(some 53), none, .f (.mv (.t 5))⟩,
   ⟨(some 54), none, .f (.mv (.t 1))⟩,
   ⟨(some 55), none, .f (.cvI .u64 (.t 54))⟩,
   ⟨(some 56), none, .f (.bin .rem (.t 53) (.t 55))⟩,
   ⟨(some 57), none, .f (.cvI .i64 (.t 56))⟩,
   ⟨(some 4), none, .f (.mv (.t 57))⟩])
 .ret))))))
theorem ok43 : fnComp Tryz.prog 43 = some (58, c43, [(.mv (.t 4))]) := by kernel_rfl

/-- loop.example/g00003/spec.l20RequestOK -/
def c44 : CC :=
 (.seq (.reg [
   ⟨(some 1), none, .x (.box 38 4 (.t 0))⟩,
   ⟨(some 2), none, .f (.mv (.c (.bool false)))⟩])
 (.seq (.reg [
   ⟨(some 3), none, .f (.fadr 0 (.t 1))⟩,
   ⟨(some 4), none, .f (.ld (.t 3))⟩,
   ⟨(some 5), none, .x (.call 77 [(.t 4)])⟩,
   ⟨(some 6), none, .f (.mv (.t 5))⟩,
   ⟨(some 7), (some (6, true)), .f (.fadr 1 (.t 1))⟩,
   ⟨(some 8), (some (6, true)), .f (.ld (.t 7))⟩,
   ⟨(some 9), (some (6, true)), .x (.call 78 [(.t 8)])⟩,
   ⟨(some 10), none, .f (.pick (.t 6) (.t 9) (.c (.bool false)))⟩,
   ⟨(some 11), none, .f (.mv (.t 10))⟩,
   ⟨(some 12), (some (11, true)), .f (.fadr 2 (.t 1))⟩,
   ⟨(some 13), (some (11, true)), .f (.ld (.t 12))⟩,
   ⟨(some 14), (some (11, true)), .f (.fadr 3 (.t 1))⟩,
   ⟨(some 15), (some (11, true)), .f (.ld (.t 14))⟩,
   ⟨(some 16), (some (11, true)), .x (.call 79 [(.t 13), (.t 15)])⟩,
   ⟨(some 17), none, .f (.pick (.t 11) (.t 16) (.c (.bool false)))⟩,
   ⟨(some 2), none, .f (.mv (.t 17))⟩])
 .ret))
theorem ok44 : fnComp Tryz.prog 44 = some (18, c44, [(.mv (.t 2))]) := by kernel_rfl

/-- loop.example/g00003/spec.l20Message -/
def c45 : CC :=
 (.seq (.reg [
   ⟨(some 6), none, .f (.mv (.c .nilslice))⟩])
 (.seq (.reg [
   ⟨(some 9), none, .f (.mv (.t 0))⟩,
   ⟨(some 10), none, .f (.bin .add (.t 9) (.c (.str [10])))⟩,
   ⟨(some 7), none, .f (.mv (.t 10))⟩])
 (.seq (.seq (.reg [
   ⟨(some 8), none, .f (.mv (.c (.int .i64 0)))⟩])
 (.block 0 (.loop (.seq (.seq (.reg [
     ⟨(some 11), none, .f (.mv (.t 8))⟩,
     ⟨(some 12), none, .f (.mv (.t 1))⟩,
     ⟨(some 13), none, .f (.len (.t 12))⟩,
     ⟨(some 14), none, .f (.bin .lss (.t 11) (.t 13))⟩])
   (.cond (.t 14)
    .skip
    (.exit 0)))
   (.seq (.block 1 (.dreg [
      ⟨(some 17), none, .f (.mv (.t 7))⟩,
      ⟨(some 18), none, .f (.mv (.t 1))⟩,
      ⟨(some 19), none, .f (.mv (.t 8))⟩,
      ⟨(some 20), none, .f (.iadr 2 (.t 18) (.t 19))⟩,
      ⟨(some 21), none, .f (.fadr 0 (.t 20))⟩,
      ⟨(some 22), none, .f (.ld (.t 21))⟩,
      ⟨(some 23), none, .f (.bin .add (.t 17) (.t 22))⟩,
      ⟨(some 24), none, .f (.bin .add (.t 23) (.c (.str [58, 32])))⟩,
      ⟨(some 25), none, .f (.mv (.t 1))⟩,
      ⟨(some 26), none, .f (.mv (.t 8))⟩,
      ⟨(some 27), none, .f (.iadr 2 (.t 25) (.t 26))⟩,
      ⟨(some 28), none, .f (.fadr 1 (.t 27))⟩,
      ⟨(some 29), none, .f (.ld (.t 28))⟩,
      ⟨(some 30), none, .f (.bin .add (.t 24) (.t 29))⟩,
      ⟨(some 31), none, .f (.bin .add (.t 30) (.c (.str [10])))⟩,
      ⟨(some 7), none, .f (.mv (.t 31))⟩]
      [false, false, false, false, false, false, false, false, false, false, false, false, false, false, false, true] [[], [], [], [1, 2], [3, 1, 2], [4, 3, 1, 2], [0, 5, 4, 3, 1, 2], [6, 0, 5, 4, 3, 1, 2], [], [], [8, 9], [10, 8, 9], [11, 10, 8, 9], [7, 6, 0, 5, 4, 3, 1, 2, 12, 11, 10, 8, 9], [13, 7, 6, 0, 5, 4, 3, 1, 2, 12, 11, 10, 8, 9], [14, 13, 7, 6, 0, 5, 4, 3, 1, 2, 12, 11, 10, 8, 9]] [0, 1, 2, 3, 4, 5, 6, 7, 8, 9, 10, 11, 12, 13, 14, 15]))
   (.reg [
     ⟨(some 15), none, .f (.mv (.t 8))⟩,
     ⟨(some 16), none, .f (.bin .add (.t 15) (.c (.int .i64 1)))⟩,
     ⟨(some 8), none, .f (.mv (.t 16))⟩]))))))
 (.seq (.seq (.reg [
   ⟨(some 32), none, .f (.mv (.t 2))⟩,
   ⟨(some 33), none, .f (.len (.t 32))⟩,
   ⟨(some 34), none, .f (.bin .gtr (.t 33) (.c (.int .i64 0)))⟩])
 (.cond (.t 34)
  (.reg [
    ⟨(some 35), none, .f (.mv (.t 7))⟩,
    ⟨(some 36), none, .f (.bin .add (.t 35) (.c (.str [108, 101, 110, 103, 116, 104, 58, 32])))⟩,
    ⟨(some 37), none, .f (.mv (.t 2))⟩,
    ⟨(some 38), none, .f (.len (.t 37))⟩,
    ⟨(some 39), none, .x (.call 25 [(.t 38)])⟩,
    ⟨(some 40), none, .f (.bin .add (.t 36) (.t 39))⟩,
    ⟨(some 41), none, .f (.bin .add (.t 40) (.c (.str [10])))⟩,
    ⟨(some 7), none, .f (.mv (.t 41))⟩])
  .skip))
 (.seq (.reg [
   ⟨(some 42), none, .f (.mv (.t 7))⟩,
   ⟨(some 43), none, .f (.bin .add (.t 42) (.c (.str [10])))⟩,
   ⟨(some 44), none, .x (.s2b 5 (.t 43))⟩,
   ⟨(some 45), none, .f (.mv (.t 2))⟩,
   ⟨(some 46), none, .x (.call 80 [(.t 44), (.t 45)])⟩,
   ⟨(some 6), none, .f (.mv (.t 46))⟩])
 .ret)))))
theorem ok45 : fnComp Tryz.prog 45 = some (47, c45, [(.mv (.t 6))]) := by kernel_rfl

/-- loop.example/g00003/impl.okRequest -/
def c46 : CC :=
 (.seq (.reg [
   ⟨(some 1), none, .x (.box 38 4 (.t 0))⟩,
   ⟨(some 2), none, .f (.mv (.c (.bool false)))⟩])
 (.seq (.reg [
   ⟨(some 4), none, .f (.fadr 0 (.t 1))⟩,
   ⟨(some 5), none, .f (.ld (.t 4))⟩,
   ⟨(some 6), none, .f (.bin .eql (.t 5) (.c (.str [103, 101, 116])))⟩,
   ⟨(some 7), none, .f (.mv (.t 6))⟩,
   ⟨(some 8), (some (7, false)), .f (.fadr 0 (.t 1))⟩,
   ⟨(some 9), (some (7, false)), .f (.ld (.t 8))⟩,
   ⟨(some 10), (some (7, false)), .f (.bin .eql (.t 9) (.c (.str [112, 117, 116])))⟩,
   ⟨(some 11), none, .f (.pick (.t 7) (.c (.bool true)) (.t 10))⟩,
   ⟨(some 12), none, .f (.mv (.t 11))⟩,
   ⟨(some 13), (some (12, false)), .f (.fadr 0 (.t 1))⟩,
   ⟨(some 14), (some (12, false)), .f (.ld (.t 13))⟩,
   ⟨(some 15), (some (12, false)), .f (.bin .eql (.t 14) (.c (.str [100, 101, 108, 101, 116, 101])))⟩,
   ⟨(some 16), none, .f (.pick (.t 12) (.c (.bool true)) (.t 15))⟩,
   ⟨(some 17), none, .f (.mv (.t 16))⟩,
   ⟨(some 18), (some (17, false)), .f (.fadr 0 (.t 1))⟩,
   ⟨(some 19), (some (17, false)), .f (.ld (.t 18))⟩,
   ⟨(some 20), (some (17, false)), .f (.bin .eql (.t 19) (.c (.str [108, 105, 115, 116])))⟩,
   ⟨(some 21), none, .f (.pick (.t 17) (.c (.bool true)) (.t 20))⟩,
   ⟨(some 3), none, .f (.mv (.t 21))⟩])
 (.seq (.reg [
   ⟨(some 22), none, .f (.mv (.t 3))⟩,
   ⟨(some 23), none, .f (.mv (.t 22))⟩,
   ⟨(some 24), (some (23, true)), .f (.fadr 1 (.t 1))⟩,
   ⟨(some 25), (some (23, true)), .f (.ld (.t 24))⟩,
   ⟨(some 26), (some (23, true)), .x (.call 81 [(.t 25)])⟩,
   ⟨(some 27), none, .f (.pick (.t 23) (.t 26) (.c (.bool false)))⟩,
   ⟨(some 28), none, .f (.mv (.t 27))⟩,
   ⟨(some 29), (some (28, true)), .f (.fadr 2 (.t 1))⟩,
   ⟨(some 30), (some (28, true)), .f (.ld (.t 29))⟩,
   ⟨(some 31), (some (28, true)), .f (.fadr 3 (.t 1))⟩,
   ⟨(some 32), (some (28, true)), .f (.ld (.t 31))⟩,
   ⟨(some 33), (some (28, true)), .x (.call 82 [(.t 30), (.t 32)])⟩,
   ⟨(some 34), none, .f (.pick (.t 28) (.t 33) (.c (.bool false)))⟩,
   ⟨(some 2), none, .f (.mv (.t 34))⟩])
 .ret)))
theorem ok46 : fnComp Tryz.prog 46 = some (35, c46, [(.mv (.t 2))]) := by kernel_rfl

/-- loop.example/g00003/impl.message -/
def c47 : CC :=
 (.seq (.reg [
   ⟨(some 6), none, .f (.mv (.c .nilslice))⟩])
 (.seq (.reg [
   ⟨(some 10), none, .f (.mv (.t 0))⟩,
   ⟨(some 11), none, .f (.bin .add (.t 10) (.c (.str [10])))⟩,
   ⟨(some 12), none, .x (.s2b 5 (.t 11))⟩,
   ⟨(some 7), none, .f (.mv (.t 12))⟩])
 (.seq (.seq (.reg [
   ⟨(some 13), none, .f (.mv (.t 1))⟩,
   ⟨(some 14), none, .f (.len (.t 13))⟩,
   ⟨(some 15), none, .f (.mv (.c (.int .i64 0)))⟩])
 (.block 0 (.loop (.seq (.reg [
     ⟨(some 16), none, .f (.bin .lss (.t 15) (.t 14))⟩])
   (.seq (.cond (.t 16)
    .skip
    (.exit 0))
   (.seq (.block 1 (.seq (.reg [
      ⟨(some 17), none, .f (.iadr 2 (.t 13) (.t 15))⟩,
      ⟨(some 18), none, .f (.ldA 2 (.t 17))⟩,
      ⟨(some 9), none, .x (.zero 106 2 [(.str []), (.str [])])⟩,
      ⟨none, none, .x (.st 2 (.t 9) (.t 18))⟩])
    (.reg [
      ⟨(some 19), none, .f (.mv (.t 7))⟩,
      ⟨(some 20), none, .f (.fadr 0 (.t 9))⟩,
      ⟨(some 21), none, .f (.ld (.t 20))⟩,
      ⟨(some 22), none, .f (.bin .add (.t 21) (.c (.str [58, 32])))⟩,
      ⟨(some 23), none, .f (.fadr 1 (.t 9))⟩,
      ⟨(some 24), none, .f (.ld (.t 23))⟩,
      ⟨(some 25), none, .f (.bin .add (.t 22) (.t 24))⟩,
      ⟨(some 26), none, .f (.bin .add (.t 25) (.c (.str [10])))⟩,
      ⟨(some 27), none, .x (.appS 5 1 (.t 19) (.t 26))⟩,
      ⟨(some 7), none, .f (.mv (.t 27))⟩])))
   (.reg [
     ⟨(some 28), none, .f (.bin .add (.t 15) (.c (.int .i64 1)))⟩,
     ⟨(some 15), none, .f (.mv (.t 28))⟩])))))))
 (.seq (.seq (.reg [
   ⟨(some 29), none, .f (.mv (.t 2))⟩,
   ⟨(some 30), none, .f (.len (.t 29))⟩,
   ⟨(some 31), none, .f (.bin .gtr (.t 30) (.c (.int .i64 0)))⟩])
 (.cond (.t 31)
  (.reg [
    ⟨(some 32), none, .f (.mv (.t 7))⟩,
    ⟨(some 33), none, .f (.mv (.t 2))⟩,
    ⟨(some 34), none, .f (.len (.t 33))⟩,
    ⟨(some 35), none, .x (.call 31 [(.t 34)])⟩,
    ⟨(some 36), none, .f (.bin .add (.c (.str [108, 101, 110, 103, 116, 104, 58, 32])) (.t 35))⟩,
    ⟨(some 37), none, .f (.bin .add (.t 36) (.c (.str [10])))⟩,
    ⟨(some 38), none, .x (.appS 5 1 (.t 32) (.t 37))⟩,
    ⟨(some 7), none, .f (.mv (.t 38))⟩])
  .skip))
 (.seq (.reg [
   ⟨(some 39), none, .f (.mv (.t 7))⟩,
   ⟨(some 40), none, .x (.bslice 5 1 [(.int .u8 0)] 1 [(0, (.c (.int .u8 10)))])⟩,
   ⟨(some 41), none, .x (.app 5 1 1 (.t 39) (.t 40))⟩,
   ⟨(some 42), none, .f (.mv (.t 2))⟩,
   ⟨(some 43), none, .x (.app 5 1 1 (.t 41) (.t 42))⟩,
   ⟨(some 6), none, .f (.mv (.t 43))⟩])
 .ret)))))
theorem ok47 : fnComp Tryz.prog 47 = some (44, c47, [(.mv (.t 6))]) := by kernel_rfl

/-- loop.example/g00003/impl.readAll[loop.example/g00003/impl.Request] -/
def c48 : CC :=
 (.seq (.reg [
   ⟨(some 3), none, .x (.box 104 1 (.t 1))⟩,
   ⟨(some 4), none, .f (.mv (.c .nilslice))⟩,
   ⟨(some 5), none, .f (.mv (.c (.int .i64 0)))⟩,
   ⟨(some 6), none, .f (.mv (.c (.int .i64 0)))⟩])
 (.seq (.reg [
   ⟨(some 7), none, .f (.mv (.c .nilslice))⟩])
 (.seq (.reg [
   ⟨(some 8), none, .f (.mv (.c (.int .i64 0)))⟩])
 (.block 0 (.loop (.block 1 (.seq (.reg [
      ⟨(some 15), none, .f (.mv (.t 0))⟩,
      ⟨(some 16), none, .f (.mv (.t 8))⟩,
      ⟨(some 17), none, .f (.slc 1 (.t 15) (some (.t 16)) none none)⟩,
      ⟨(some 18), none, .f (.mkf 84 [] [(.t 3)])⟩,
      ⟨(some 19), none, .x (.call 83 [(.t 17), (.t 18)])⟩,
      ⟨(some 14), none, .f (.mv (.t 19))⟩,
      ⟨(some 20), none, .f (.ext 0 (.t 14))⟩,
      ⟨(some 21), none, .f (.ext 1 (.t 14))⟩,
      ⟨(some 22), none, .f (.ext 2 (.t 14))⟩,
      ⟨(some 9), none, .x (.zero 144 4 [(.str []), .nilslice, .nilslice, (.int .i64 0)])⟩,
      ⟨none, none, .x (.st 4 (.t 9) (.t 20))⟩,
      ⟨(some 10), none, .f (.mv (.t 21))⟩,
      ⟨(some 11), none, .f (.mv (.t 22))⟩])
    (.seq (.seq (.reg [
      ⟨(some 23), none, .f (.mv (.t 10))⟩,
      ⟨(some 24), none, .f (.un .not (.t 23))⟩])
    (.cond (.t 24)
     (.seq (.reg [
       ⟨(some 25), none, .f (.mv (.t 7))⟩,
       ⟨(some 26), none, .f (.mv (.t 8))⟩,
       ⟨(some 27), none, .f (.mv (.t 11))⟩,
       ⟨(some 4), none, .f (.mv (.t 25))⟩,
       ⟨(some 5), none, .f (.mv (.t 26))⟩,
       ⟨(some 6), none, .f (.mv (.t 27))⟩])
     .ret)
     .skip))
    (.seq (.reg [
      ⟨(some 29), none, .f (.ld (.t 3))⟩,
      ⟨(some 30), none, .f (.ldA 4 (.t 9))⟩,
      ⟨(some 31), none, .x (.callv (.t 29) [(.t 30)])⟩,
      ⟨(some 28), none, .f (.mv (.t 31))⟩,
      ⟨(some 32), none, .f (.ext 0 (.t 28))⟩,
      ⟨(some 33), none, .f (.ext 1 (.t 28))⟩,
      ⟨(some 12), none, .x (.zero 38 4 [(.str []), (.str []), .nilslice, .nilslice])⟩,
      ⟨none, none, .x (.st 4 (.t 12) (.t 32))⟩,
      ⟨(some 13), none, .f (.mv (.t 33))⟩])
    (.seq (.reg [
      ⟨(some 34), none, .f (.mv (.t 7))⟩,
      ⟨(some 35), none, .f (.ldA 4 (.t 12))⟩,
      ⟨(some 36), none, .x (.bslice 38 4 [(.str []), (.str []), .nilslice, .nilslice] 1 [(0, (.t 35))])⟩,
      ⟨(some 37), none, .x (.app 38 4 80 (.t 34) (.t 36))⟩,
      ⟨(some 7), none, .f (.mv (.t 37))⟩])
    (.reg [
      ⟨(some 38), none, .f (.mv (.t 8))⟩,
      ⟨(some 39), none, .f (.fadr 3 (.t 9))⟩,
      ⟨(some 40), none, .f (.ld (.t 39))⟩,
      ⟨(some 41), none, .f (.bin .add (.t 38) (.t 40))⟩,
      ⟨(some 8), none, .f (.mv (.t 41))⟩])))))))))))
theorem ok48 : fnComp Tryz.prog 48 = some (42, c48, [(.mv (.t 4)), (.mv (.t 5)), (.mv (.t 6))]) := by kernel_rfl

/-- loop.example/g00003/impl.toRequest -/
def c49 : CC :=
 (.seq (.reg [
   ⟨(some 1), none, .x (.box 144 4 (.t 0))⟩,
   ⟨(some 2), none, .x (.zero 38 4 [(.str []), (.str []), .nilslice, .nilslice])⟩,
   ⟨(some 3), none, .f (.mv (.c (.bool false)))⟩])
 (.seq (.reg [
   ⟨(some 9), none, .f (.fadr 0 (.t 1))⟩,
   ⟨(some 10), none, .f (.ld (.t 9))⟩,
   ⟨(some 11), none, .x (.call 85 [(.t 10), (.c (.str [32]))])⟩,
   ⟨(some 8), none, .f (.mv (.t 11))⟩,
   ⟨(some 12), none, .f (.ext 0 (.t 8))⟩,
   ⟨(some 13), none, .f (.ext 1 (.t 8))⟩,
   ⟨(some 14), none, .f (.ext 2 (.t 8))⟩,
   ⟨(some 4), none, .f (.mv (.t 12))⟩,
   ⟨(some 5), none, .f (.mv (.t 13))⟩,
   ⟨(some 6), none, .f (.mv (.t 14))⟩])
 (.seq (.reg [
   ⟨(some 15), none, .f (.mv (.t 4))⟩,
   ⟨(some 16), none, .f (.mv (.t 5))⟩,
   ⟨(some 17), none, .f (.fadr 1 (.t 1))⟩,
   ⟨(some 18), none, .f (.ld (.t 17))⟩,
   ⟨(some 19), none, .f (.fadr 2 (.t 1))⟩,
   ⟨(some 20), none, .f (.ld (.t 19))⟩,
   ⟨(some 21), none, .f (.build [(.str []), (.str []), .nilslice, .nilslice] [(0, 1, (.t 15)), (1, 1, (.t 16)), (2, 1, (.t 18)), (3, 1, (.t 20))])⟩,
   ⟨(some 7), none, .x (.zero 38 4 [(.str []), (.str []), .nilslice, .nilslice])⟩,
   ⟨none, none, .x (.st 4 (.t 7) (.t 21))⟩])
 (.seq (.dreg [
   ⟨(some 22), none, .f (.ldA 4 (.t 7))⟩,
   ⟨(some 23), none, .f (.ldA 4 (.t 7))⟩,
   ⟨(some 24), none, .x (.call 46 [(.t 23)])⟩,
   ⟨none, none, .x (.st 4 (.t 2) (.t 22))⟩,
   ⟨(some 3), none, .f (.mv (.t 24))⟩]
   [false, false, true, true, false] [[], [], [1], [0, 2, 1], [2, 1, 3, 0]] [0, 1, 2, 3, 4])
 .ret))))
theorem ok49 : fnComp Tryz.prog 49 = some (25, c49, [(.ldA 4 (.t 2)), (.mv (.t 3))]) := by kernel_rfl

/-- loop.example/g00003/spec.l20Fields -/
def c50 : CC :=
 (.seq (.reg [
   ⟨(some 4), none, .f (.mv (.c .nilslice))⟩])
 (.seq (.reg [
   ⟨(some 9), none, .x (.bslice 106 2 [(.str []), (.str [])] 0 [])⟩,
   ⟨(some 5), none, .f (.mv (.t 9))⟩])
 (.seq (.reg [
   ⟨(some 10), none, .f (.mv (.t 0))⟩,
   ⟨(some 11), none, .x (.call 43 [(.t 10), (.c (.int .i64 3))])⟩,
   ⟨(some 6), none, .f (.mv (.t 11))⟩])
 (.seq (.seq (.reg [
   ⟨(some 7), none, .f (.mv (.c (.int .i64 0)))⟩])
 (.block 0 (.loop (.seq (.seq (.reg [
     ⟨(some 12), none, .f (.mv (.t 7))⟩,
     ⟨(some 13), none, .f (.mv (.t 6))⟩,
     ⟨(some 14), none, .f (.bin .lss (.t 12) (.t 13))⟩])
   (.cond (.t 14)
    .skip
    (.exit 0)))
   (.seq (.block 1 (.seq (.reg [
      ⟨(some 17), none, .f (.build [(.str []), (.str [])] [(0, 1, (.c (.str [110, 111, 116, 101]))), (1, 1, (.c (.str [120, 58, 32, 121, 32, 32, 122])))])⟩,
      ⟨(some 8), none, .x (.zero 106 2 [(.str []), (.str [])])⟩,
      ⟨none, none, .x (.st 2 (.t 8) (.t 17))⟩])
    (.seq (.seq (.reg [
      ⟨(some 18), none, .f (.mv (.t 0))⟩,
      ⟨(some 19), none, .x (.call 43 [(.t 18), (.c (.int .i64 5))])⟩])
    (.block 2 (.seq (.reg [
       ⟨(some 21), none, .f (.bin .eql (.t 19) (.c (.int .i64 0)))⟩,
       ⟨(some 20), none, .f (.mv (.t 21))⟩])
     (.cond (.t 20)
      (.seq (.reg [
        ⟨(some 22), none, .f (.mv (.t 1))⟩,
        ⟨(some 23), none, .x (.call 86 [(.t 22)])⟩,
        ⟨none, none, .x (.st 2 (.t 8) (.t 23))⟩])
      (.reg [
        ⟨(some 24), none, .f (.fadr 0 (.t 8))⟩,
        ⟨none, none, .x (.st 1 (.t 24) (.c (.str [109, 97, 116, 99, 104])))⟩]))
      (.seq (.reg [
        ⟨(some 26), none, .f (.bin .eql (.t 19) (.c (.int .i64 1)))⟩,
        ⟨(some 25), none, .f (.mv (.t 26))⟩])
      (.cond (.t 25)
       (.reg [
         ⟨(some 27), none, .f (.mv (.t 0))⟩,
         ⟨(some 28), none, .x (.call 43 [(.t 27), (.c (.int .i64 20))])⟩,
         ⟨(some 29), none, .x (.call 25 [(.t 28)])⟩,
         ⟨(some 30), none, .f (.build [(.str []), (.str [])] [(0, 1, (.c (.str [102, 114, 111, 109]))), (1, 1, (.t 29))])⟩,
         ⟨none, none, .x (.st 2 (.t 8) (.t 30))⟩])
       (.seq (.reg [
         ⟨(some 32), none, .f (.bin .eql (.t 19) (.c (.int .i64 2)))⟩,
         ⟨(some 31), none, .f (.mv (.t 32))⟩])
       (.cond (.t 31)
        (.reg [
          ⟨(some 33), none, .x (.bslice 9 1 [(.str [])] 5 [(0, (.c (.str []))), (1, (.c (.str [48, 49]))), (2, (.c (.str [45, 49]))), (3, (.c (.str [57, 57, 57, 57, 57, 57, 57, 57, 57]))), (4, (.c (.str [49, 50, 51, 52, 53, 54, 55, 56, 57, 48])))])⟩,
          ⟨(some 34), none, .f (.mv (.t 0))⟩,
          ⟨(some 35), none, .x (.call 43 [(.t 34), (.c (.int .i64 5))])⟩,
          ⟨(some 36), none, .f (.iadr 1 (.t 33) (.t 35))⟩,
          ⟨(some 37), none, .f (.ld (.t 36))⟩,
          ⟨(some 38), none, .f (.build [(.str []), (.str [])] [(0, 1, (.c (.str [102, 114, 111, 109]))), (1, 1, (.t 37))])⟩,
          ⟨none, none, .x (.st 2 (.t 8) (.t 38))⟩])
        (.seq (.reg [
          ⟨(some 40), none, .f (.bin .eql (.t 19) (.c (.int .i64 3)))⟩,
          ⟨(some 39), none, .f (.mv (.t 40))⟩])
        (.cond (.t 39)
         (.reg [
           ⟨(some 41), none, .f (.build [(.str []), (.str [])] [(0, 1, (.c (.str [109, 97, 116, 99, 104]))), (1, 1, (.c (.str [55])))])⟩,
           ⟨none, none, .x (.st 2 (.t 8) (.t 41))⟩])
         .skip))))))))))
    (.reg [
      ⟨(some 42), none, .f (.mv (.t 5))⟩,
      ⟨(some 43), none, .f (.ldA 2 (.t 8))⟩,
      ⟨(some 44), none, .x (.bslice 106 2 [(.str []), (.str [])] 1 [(0, (.t 43))])⟩,
      ⟨(some 45), none, .x (.app 106 2 32 (.t 42) (.t 44))⟩,
      ⟨(some 5), none, .f (.mv (.t 45))⟩]))))
   (.reg [
     ⟨(some 15), none, .f (.mv (.t 7))⟩,
     ⟨(some 16), none, .f (.bin .add (.t 15) (.c (.int .i64 1)))⟩,
     ⟨(some 7), none, .f (.mv (.t 16))⟩]))))))
 (.seq (.reg [
   ⟨(some 46), none, .f (.mv (.t 5))⟩,
   ⟨(some 4), none, .f (.mv (.t 46))⟩])
 .ret)))))
theorem ok50 : fnComp Tryz.prog 50 = some (47, c50, [(.mv (.t 4))]) := by kernel_rfl

/-- loop.example/g00003/spec.l20Body -/
def c51 : CC :=
 (.seq (.reg [
   ⟨(some 2), none, .f (.mv (.c .nilslice))⟩])
 (.seq (.seq (.reg [
   ⟨(some 3), none, .f (.mv (.t 0))⟩,
   ⟨(some 4), none, .x (.call 43 [(.t 3), (.c (.int .i64 5))])⟩])
 (.block 0 (.seq (.reg [
    ⟨(some 6), none, .f (.bin .eql (.t 4) (.c (.int .i64 0)))⟩,
    ⟨(some 5), none, .f (.mv (.t 6))⟩])
  (.cond (.t 5)
   (.seq (.reg [
     ⟨(some 2), none, .f (.mv (.c .nilslice))⟩])
   .ret)
   (.seq (.reg [
     ⟨(some 8), none, .f (.bin .eql (.t 4) (.c (.int .i64 1)))⟩,
     ⟨(some 7), none, .f (.mv (.t 8))⟩])
   (.cond (.t 7)
    (.seq (.reg [
      ⟨(some 9), none, .x (.bslice 5 1 [(.int .u8 0)] 13 [(0, (.c (.int .u8 111))), (1, (.c (.int .u8 110))), (2, (.c (.int .u8 101))), (3, (.c (.int .u8 10))), (4, (.c (.int .u8 10))), (5, (.c (.int .u8 103))), (6, (.c (.int .u8 101))), (7, (.c (.int .u8 116))), (8, (.c (.int .u8 32))), (9, (.c (.int .u8 47))), (10, (.c (.int .u8 97))), (11, (.c (.int .u8 10))), (12, (.c (.int .u8 10)))])⟩,
      ⟨(some 10), none, .x (.ux .smark [(.t 9)])⟩,
      ⟨(some 2), none, .f (.mv (.t 10))⟩])
    .ret)
    (.seq (.reg [
      ⟨(some 12), none, .f (.bin .eql (.t 4) (.c (.int .i64 2)))⟩,
      ⟨(some 11), none, .f (.mv (.t 12))⟩])
    (.cond (.t 11)
     (.seq (.reg [
       ⟨(some 13), none, .x (.bslice 5 1 [(.int .u8 0)] 3 [(0, (.c (.int .u8 116))), (1, (.c (.int .u8 119))), (2, (.c (.int .u8 111)))])⟩,
       ⟨(some 14), none, .x (.ux .smark [(.t 13)])⟩,
       ⟨(some 2), none, .f (.mv (.t 14))⟩])
     .ret)
     (.seq (.reg [
       ⟨(some 16), none, .f (.bin .eql (.t 4) (.c (.int .i64 3)))⟩,
       ⟨(some 15), none, .f (.mv (.t 16))⟩])
     (.cond (.t 15)
      (.seq (.reg [
        ⟨(some 17), none, .x (.bslice 5 1 [(.int .u8 0)] 4 [(0, (.c (.int .u8 0))), (1, (.c (.int .u8 255))), (2, (.c (.int .u8 10))), (3, (.c (.int .u8 10)))])⟩,
        ⟨(some 2), none, .f (.mv (.t 17))⟩])
      .ret)
      .skip))))))))))
 (.seq (.reg [
   ⟨(some 18), none, .f (.mv (.t 0))⟩,
   ⟨(some 19), none, .f (.mv (.t 0))⟩,
   ⟨(some 20), none, .x (.call 43 [(.t 19), (.c (.int .i64 40))])⟩,
   ⟨(some 21), none, .f (.bin .add (.c (.int .i64 1)) (.t 20))⟩,
   ⟨(some 22), none, .x (.call 87 [(.t 18), (.t 21)])⟩,
   ⟨(some 2), none, .f (.mv (.t 22))⟩])
 .ret)))
theorem ok51 : fnComp Tryz.prog 51 = some (23, c51, [(.mv (.t 2))]) := by kernel_rfl

/-- loop.example/g00003/spec.l20ReplyOK -/
def c52 : CC :=
 (.seq (.reg [
   ⟨(some 1), none, .x (.box 48 3 (.t 0))⟩,
   ⟨(some 2), none, .f (.mv (.c (.bool false)))⟩])
 (.seq (.reg [
   ⟨(some 3), none, .f (.fadr 0 (.t 1))⟩,
   ⟨(some 4), none, .f (.ld (.t 3))⟩,
   ⟨(some 5), none, .x (.call 57 [(.t 4), (.c (.int .i64 100)), (.c (.int .i64 999))])⟩,
   ⟨(some 6), none, .f (.mv (.t 5))⟩,
   ⟨(some 7), (some (6, true)), .f (.fadr 1 (.t 1))⟩,
   ⟨(some 8), (some (6, true)), .f (.ld (.t 7))⟩,
   ⟨(some 9), (some (6, true)), .f (.fadr 2 (.t 1))⟩,
   ⟨(some 10), (some (6, true)), .f (.ld (.t 9))⟩,
   ⟨(some 11), (some (6, true)), .x (.call 79 [(.t 8), (.t 10)])⟩,
   ⟨(some 12), none, .f (.pick (.t 6) (.t 11) (.c (.bool false)))⟩,
   ⟨(some 2), none, .f (.mv (.t 12))⟩])
 .ret))
theorem ok52 : fnComp Tryz.prog 52 = some (13, c52, [(.mv (.t 2))]) := by kernel_rfl

/-- loop.example/g00003/impl.okAnswer -/
def c53 : CC :=
 (.seq (.reg [
   ⟨(some 1), none, .x (.box 48 3 (.t 0))⟩,
   ⟨(some 2), none, .f (.mv (.c (.bool false)))⟩])
 (.seq (.reg [
   ⟨(some 3), none, .f (.fadr 0 (.t 1))⟩,
   ⟨(some 4), none, .f (.ld (.t 3))⟩,
   ⟨(some 5), none, .f (.bin .geq (.t 4) (.c (.int .i64 100)))⟩,
   ⟨(some 6), none, .f (.mv (.t 5))⟩,
   ⟨(some 7), (some (6, true)), .f (.fadr 0 (.t 1))⟩,
   ⟨(some 8), (some (6, true)), .f (.ld (.t 7))⟩,
   ⟨(some 9), (some (6, true)), .f (.bin .leq (.t 8) (.c (.int .i64 999)))⟩,
   ⟨(some 10), none, .f (.pick (.t 6) (.t 9) (.c (.bool false)))⟩,
   ⟨(some 11), none, .f (.mv (.t 10))⟩,
   ⟨(some 12), (some (11, true)), .f (.fadr 1 (.t 1))⟩,
   ⟨(some 13), (some (11, true)), .f (.ld (.t 12))⟩,
   ⟨(some 14), (some (11, true)), .f (.fadr 2 (.t 1))⟩,
   ⟨(some 15), (some (11, true)), .f (.ld (.t 14))⟩,
   ⟨(some 16), (some (11, true)), .x (.call 82 [(.t 13), (.t 15)])⟩,
   ⟨(some 17), none, .f (.pick (.t 11) (.t 16) (.c (.bool false)))⟩,
   ⟨(some 2), none, .f (.mv (.t 17))⟩])
 .ret))
theorem ok53 : fnComp Tryz.prog 53 = some (18, c53, [(.mv (.t 2))]) := by kernel_rfl

/-- loop.example/g00003/impl.readAll[loop.example/g00003/impl.Reply] -/
def c54 : CC :=
 (.seq (.reg [
   ⟨(some 3), none, .x (.box 111 1 (.t 1))⟩,
   ⟨(some 4), none, .f (.mv (.c .nilslice))⟩,
   ⟨(some 5), none, .f (.mv (.c (.int .i64 0)))⟩,
   ⟨(some 6), none, .f (.mv (.c (.int .i64 0)))⟩])
 (.seq (.reg [
   ⟨(some 7), none, .f (.mv (.c .nilslice))⟩])
 (.seq (.reg [
   ⟨(some 8), none, .f (.mv (.c (.int .i64 0)))⟩])
 (.block 0 (.loop (.block 1 (.seq (.reg [
      ⟨(some 15), none, .f (.mv (.t 0))⟩,
      ⟨(some 16), none, .f (.mv (.t 8))⟩,
      ⟨(some 17), none, .f (.slc 1 (.t 15) (some (.t 16)) none none)⟩,
      ⟨(some 18), none, .f (.mkf 88 [] [(.t 3)])⟩,
      ⟨(some 19), none, .x (.call 83 [(.t 17), (.t 18)])⟩,
      ⟨(some 14), none, .f (.mv (.t 19))⟩,
      ⟨(some 20), none, .f (.ext 0 (.t 14))⟩,
      ⟨(some 21), none, .f (.ext 1 (.t 14))⟩,
      ⟨(some 22), none, .f (.ext 2 (.t 14))⟩,
      ⟨(some 9), none, .x (.zero 144 4 [(.str []), .nilslice, .nilslice, (.int .i64 0)])⟩,
      ⟨none, none, .x (.st 4 (.t 9) (.t 20))⟩,
      ⟨(some 10), none, .f (.mv (.t 21))⟩,
      ⟨(some 11), none, .f (.mv (.t 22))⟩])
    (.seq (.seq (.reg [
      ⟨(some 23), none, .f (.mv (.t 10))⟩,
      ⟨(some 24), none, .f (.un .not (.t 23))⟩])
    (.cond (.t 24)
     (.seq (.reg [
       ⟨(some 25), none, .f (.mv (.t 7))⟩,
       ⟨(some 26), none, .f (.mv (.t 8))⟩,
       ⟨(some 27), none, .f (.mv (.t 11))⟩,
       ⟨(some 4), none, .f (.mv (.t 25))⟩,
       ⟨(some 5), none, .f (.mv (.t 26))⟩,
       ⟨(some 6), none, .f (.mv (.t 27))⟩])
     .ret)
     .skip))
    (.seq (.reg [
      ⟨(some 29), none, .f (.ld (.t 3))⟩,
      ⟨(some 30), none, .f (.ldA 4 (.t 9))⟩,
      ⟨(some 31), none, .x (.callv (.t 29) [(.t 30)])⟩,
      ⟨(some 28), none, .f (.mv (.t 31))⟩,
      ⟨(some 32), none, .f (.ext 0 (.t 28))⟩,
      ⟨(some 33), none, .f (.ext 1 (.t 28))⟩,
      ⟨(some 12), none, .x (.zero 48 3 [(.int .i64 0), .nilslice, .nilslice])⟩,
      ⟨none, none, .x (.st 3 (.t 12) (.t 32))⟩,
      ⟨(some 13), none, .f (.mv (.t 33))⟩])
    (.seq (.reg [
      ⟨(some 34), none, .f (.mv (.t 7))⟩,
      ⟨(some 35), none, .f (.ldA 3 (.t 12))⟩,
      ⟨(some 36), none, .x (.bslice 48 3 [(.int .i64 0), .nilslice, .nilslice] 1 [(0, (.t 35))])⟩,
      ⟨(some 37), none, .x (.app 48 3 56 (.t 34) (.t 36))⟩,
      ⟨(some 7), none, .f (.mv (.t 37))⟩])
    (.reg [
      ⟨(some 38), none, .f (.mv (.t 8))⟩,
      ⟨(some 39), none, .f (.fadr 3 (.t 9))⟩,
      ⟨(some 40), none, .f (.ld (.t 39))⟩,
      ⟨(some 41), none, .f (.bin .add (.t 38) (.t 40))⟩,
      ⟨(some 8), none, .f (.mv (.t 41))⟩])))))))))))
theorem ok54 : fnComp Tryz.prog 54 = some (42, c54, [(.mv (.t 4)), (.mv (.t 5)), (.mv (.t 6))]) := by kernel_rfl

/-- loop.example/g00003/impl.toReply -/
def c55 : CC :=
 (.seq (.reg [
   ⟨(some 1), none, .x (.box 144 4 (.t 0))⟩,
   ⟨(some 2), none, .x (.zero 48 3 [(.int .i64 0), .nilslice, .nilslice])⟩,
   ⟨(some 3), none, .f (.mv (.c (.bool false)))⟩])
 (.seq (.reg [
   ⟨(some 10), none, .f (.fadr 0 (.t 1))⟩,
   ⟨(some 11), none, .f (.ld (.t 10))⟩,
   ⟨(some 12), none, .x (.call 89 [(.t 11), (.c (.str [114, 101, 112, 108, 121, 32]))])⟩,
   ⟨(some 9), none, .f (.mv (.t 12))⟩,
   ⟨(some 13), none, .f (.ext 0 (.t 9))⟩,
   ⟨(some 14), none, .f (.ext 1 (.t 9))⟩,
   ⟨(some 4), none, .f (.mv (.t 13))⟩,
   ⟨(some 5), none, .f (.mv (.t 14))⟩])
 (.seq (.reg [
   ⟨(some 16), none, .f (.mv (.t 4))⟩,
   ⟨(some 17), none, .x (.call 90 [(.t 16), (.c (.int .i64 3))])⟩,
   ⟨(some 15), none, .f (.mv (.t 17))⟩,
   ⟨(some 18), none, .f (.ext 0 (.t 15))⟩,
   ⟨(some 19), none, .f (.ext 1 (.t 15))⟩,
   ⟨(some 6), none, .f (.mv (.t 18))⟩,
   ⟨(some 7), none, .f (.mv (.t 19))⟩])
 (.seq (.reg [
   ⟨(some 20), none, .f (.mv (.t 6))⟩,
   ⟨(some 21), none, .f (.fadr 1 (.t 1))⟩,
   ⟨(some 22), none, .f (.ld (.t 21))⟩,
   ⟨(some 23), none, .f (.fadr 2 (.t 1))⟩,
   ⟨(some 24), none, .f (.ld (.t 23))⟩,
   ⟨(some 25), none, .f (.build [(.int .i64 0), .nilslice, .nilslice] [(0, 1, (.t 20)), (1, 1, (.t 22)), (2, 1, (.t 24))])⟩,
   ⟨(some 8), none, .x (.zero 48 3 [(.int .i64 0), .nilslice, .nilslice])⟩,
   ⟨none, none, .x (.st 3 (.t 8) (.t 25))⟩])
 (.seq (.dreg [
   ⟨(some 26), none, .f (.ldA 3 (.t 8))⟩,
   ⟨(some 27), none, .f (.mv (.t 5))⟩,
   ⟨(some 28), none, .f (.mv (.t 27))⟩,
   ⟨(some 29), (some (28, true)), .f (.mv (.t 7))⟩,
   ⟨(some 30), none, .f (.pick (.t 28) (.t 29) (.c (.bool false)))⟩,
   ⟨(some 31), none, .f (.mv (.t 30))⟩,
   ⟨(some 32), (some (31, true)), .f (.ldA 3 (.t 8))⟩,
   ⟨(some 33), (some (31, true)), .x (.call 53 [(.t 32)])⟩,
   ⟨(some 34), none, .f (.pick (.t 31) (.t 33) (.c (.bool false)))⟩,
   ⟨none, none, .x (.st 3 (.t 2) (.t 26))⟩,
   ⟨(some 3), none, .f (.mv (.t 34))⟩]
   [false, false, false, false, false, false, false, true, false, true, false] [[], [], [1], [2, 1], [2, 1, 3], [4, 2, 1, 3], [5, 4, 2, 1, 3], [6, 5, 4, 2, 1, 3], [5, 4, 2, 1, 3, 7, 6], [0, 7, 6, 5, 4, 2, 1, 3], [8, 5, 4, 2, 1, 3, 7, 6, 9, 0]] [0, 1, 2, 3, 4, 5, 6, 7, 8, 9, 10])
 .ret)))))
theorem ok55 : fnComp Tryz.prog 55 = some (35, c55, [(.ldA 3 (.t 2)), (.mv (.t 3))]) := by kernel_rfl

/-- loop.example/g00003/spec.l01In -/
def c57 : CC :=
 (.seq (.reg [
   ⟨(some 6), none, .f (.mv (.c (.bool false)))⟩])
 (.seq (.reg [
   ⟨(some 7), none, .f (.mv (.t 0))⟩,
   ⟨(some 8), none, .f (.mv (.t 1))⟩,
   ⟨(some 9), none, .f (.bin .geq (.t 7) (.t 8))⟩,
   ⟨(some 10), none, .f (.mv (.t 9))⟩,
   ⟨(some 11), (some (10, true)), .f (.mv (.t 0))⟩,
   ⟨(some 12), (some (10, true)), .f (.mv (.t 2))⟩,
   ⟨(some 13), (some (10, true)), .f (.bin .leq (.t 11) (.t 12))⟩,
   ⟨(some 14), none, .f (.pick (.t 10) (.t 13) (.c (.bool false)))⟩,
   ⟨(some 6), none, .f (.mv (.t 14))⟩])
 .ret))
theorem ok57 : fnComp Tryz.prog 57 = some (15, c57, [(.mv (.t 6))]) := by kernel_rfl

/-- loop.example/g00003/spec.l20Path -/
def c75 : CC :=
 (.seq (.reg [
   ⟨(some 2), none, .f (.mv (.c (.str [])))⟩])
 (.seq (.reg [
   ⟨(some 3), none, .x (.bslice 9 1 [(.str [])] 6 [(0, (.c (.str [47]))), (1, (.c (.str [47, 97]))), (2, (.c (.str [47, 97, 47, 98]))), (3, (.c (.str [47, 105, 110, 100, 101, 120, 46, 116, 120, 116]))), (4, (.c (.str [47, 66, 105, 103, 95, 49]))), (5, (.c (.str [47, 97, 47, 99, 45, 100])))])⟩,
   ⟨(some 4), none, .f (.mv (.t 0))⟩,
   ⟨(some 5), none, .x (.call 43 [(.t 4), (.c (.int .i64 6))])⟩,
   ⟨(some 6), none, .f (.iadr 1 (.t 3) (.t 5))⟩,
   ⟨(some 7), none, .f (.ld (.t 6))⟩,
   ⟨(some 2), none, .f (.mv (.t 7))⟩])
 .ret))
theorem ok75 : fnComp Tryz.prog 75 = some (8, c75, [(.mv (.t 2))]) := by kernel_rfl

/-- loop.example/g00003/spec.l01Bool -/
def c76 : CC :=
 (.seq (.reg [
   ⟨(some 2), none, .f (.mv (.c (.bool false)))⟩])
 (.seq (.reg [
   ⟨(some 3), none, .f (.mv (.t 0))⟩,
   ⟨(some 4), none, .x (.call 43 [(.t 3), (.c (.int .i64 2))])⟩,
   ⟨(some 5), none, .f (.bin .eql (.t 4) (.c (.int .i64 0)))⟩,
   ⟨(some 2), none, .f (.mv (.t 5))⟩])
 .ret))
theorem ok76 : fnComp Tryz.prog 76 = some (6, c76, [(.mv (.t 2))]) := by kernel_rfl

/-- loop.example/g00003/spec.l20VerbOK -/
def c77 : CC :=
 (.seq (.reg [
   ⟨(some 2), none, .f (.mv (.c (.bool false)))⟩])
 (.seq (.reg [
   ⟨(some 3), none, .f (.mv (.t 0))⟩,
   ⟨(some 4), none, .f (.bin .eql (.t 3) (.c (.str [103, 101, 116])))⟩,
   ⟨(some 5), none, .f (.mv (.t 4))⟩,
   ⟨(some 6), (some (5, false)), .f (.mv (.t 0))⟩,
   ⟨(some 7), (some (5, false)), .f (.bin .eql (.t 6) (.c (.str [112, 117, 116])))⟩,
   ⟨(some 8), none, .f (.pick (.t 5) (.c (.bool true)) (.t 7))⟩,
   ⟨(some 9), none, .f (.mv (.t 8))⟩,
   ⟨(some 10), (some (9, false)), .f (.mv (.t 0))⟩,
   ⟨(some 11), (some (9, false)), .f (.bin .eql (.t 10) (.c (.str [100, 101, 108, 101, 116, 101])))⟩,
   ⟨(some 12), none, .f (.pick (.t 9) (.c (.bool true)) (.t 11))⟩,
   ⟨(some 13), none, .f (.mv (.t 12))⟩,
   ⟨(some 14), (some (13, false)), .f (.mv (.t 0))⟩,
   ⟨(some 15), (some (13, false)), .f (.bin .eql (.t 14) (.c (.str [108, 105, 115, 116])))⟩,
   ⟨(some 16), none, .f (.pick (.t 13) (.c (.bool true)) (.t 15))⟩,
   ⟨(some 2), none, .f (.mv (.t 16))⟩])
 .ret))
theorem ok77 : fnComp Tryz.prog 77 = some (17, c77, [(.mv (.t 2))]) := by kernel_rfl

/-- loop.example/g00003/spec.l20PathOK -/
def c78 : CC :=
 (.seq (.reg [
   ⟨(some 2), none, .f (.mv (.c (.bool false)))⟩])
 (.seq (.seq (.reg [
   ⟨(some 4), none, .f (.mv (.t 0))⟩,
   ⟨(some 5), none, .f (.lenS (.t 4))⟩,
   ⟨(some 6), none, .f (.bin .lss (.t 5) (.c (.int .i64 1)))⟩,
   ⟨(some 7), none, .f (.mv (.t 6))⟩,
   ⟨(some 8), (some (7, false)), .f (.mv (.t 0))⟩,
   ⟨(some 9), (some (7, false)), .f (.lenS (.t 8))⟩,
   ⟨(some 10), (some (7, false)), .f (.bin .gtr (.t 9) (.c (.int .i64 200)))⟩,
   ⟨(some 11), none, .f (.pick (.t 7) (.c (.bool true)) (.t 10))⟩,
   ⟨(some 12), none, .f (.mv (.t 11))⟩,
   ⟨(some 13), (some (12, false)), .f (.mv (.t 0))⟩,
   ⟨(some 14), (some (12, false)), .f (.idxS (.t 13) (.c (.int .i64 0)))⟩,
   ⟨(some 15), (some (12, false)), .f (.bin .neq (.t 14) (.c (.int .u8 47)))⟩,
   ⟨(some 16), none, .f (.pick (.t 12) (.c (.bool true)) (.t 15))⟩])
 (.cond (.t 16)
  (.seq (.reg [
    ⟨(some 2), none, .f (.mv (.c (.bool false)))⟩])
  .ret)
  .skip))
 (.seq (.seq (.reg [
   ⟨(some 3), none, .f (.mv (.c (.int .i64 0)))⟩])
 (.block 0 (.loop (.seq (.seq (.reg [
     ⟨(some 17), none, .f (.mv (.t 3))⟩,
     ⟨(some 18), none, .f (.mv (.t 0))⟩,
     ⟨(some 19), none, .f (.lenS (.t 18))⟩,
     ⟨(some 20), none, .f (.bin .lss (.t 17) (.t 19))⟩])
   (.cond (.t 20)
    .skip
    (.exit 0)))
   (.seq (.block 1 (.seq (.reg [
      ⟨(some 23), none, .f (.mv (.t 0))⟩,
      ⟨(some 24), none, .f (.mv (.t 3))⟩,
      ⟨(some 25), none, .f (.idxS (.t 23) (.t 24))⟩,
      ⟨(some 26), none, .x (.call 113 [(.t 25)])⟩,
      ⟨(some 27), none, .f (.un .not (.t 26))⟩,
      ⟨(some 28), none, .f (.mv (.t 27))⟩,
      ⟨(some 29), (some (28, false)), .f (.mv (.t 0))⟩,
      ⟨(some 30), (some (28, false)), .f (.mv (.t 3))⟩,
      ⟨(some 31), (some (28, false)), .f (.idxS (.t 29) (.t 30))⟩,
      ⟨(some 32), (some (28, false)), .f (.bin .eql (.t 31) (.c (.int .u8 58)))⟩,
      ⟨(some 33), none, .f (.pick (.t 28) (.c (.bool true)) (.t 32))⟩])
    (.cond (.t 33)
     (.seq (.reg [
       ⟨(some 2), none, .f (.mv (.c (.bool false)))⟩])
     .ret)
     .skip)))
   (.reg [
     ⟨(some 21), none, .f (.mv (.t 3))⟩,
     ⟨(some 22), none, .f (.bin .add (.t 21) (.c (.int .i64 1)))⟩,
     ⟨(some 3), none, .f (.mv (.t 22))⟩]))))))
 (.seq (.reg [
   ⟨(some 2), none, .f (.mv (.c (.bool true)))⟩])
 .ret))))
theorem ok78 : fnComp Tryz.prog 78 = some (34, c78, [(.mv (.t 2))]) := by kernel_rfl

/-- loop.example/g00003/spec.l20RestOK -/
def c79 : CC :=
 (.seq (.reg [
   ⟨(some 4), none, .f (.mv (.c (.bool false)))⟩])
 (.seq (.seq (.reg [
   ⟨(some 6), none, .f (.mv (.t 0))⟩,
   ⟨(some 7), none, .f (.len (.t 6))⟩,
   ⟨(some 8), none, .f (.bin .gtr (.t 7) (.c (.int .i64 16)))⟩,
   ⟨(some 9), none, .f (.mv (.t 8))⟩,
   ⟨(some 10), (some (9, false)), .f (.mv (.t 1))⟩,
   ⟨(some 11), (some (9, false)), .f (.len (.t 10))⟩,
   ⟨(some 12), (some (9, false)), .f (.bin .gtr (.t 11) (.c (.int .i64 60000)))⟩,
   ⟨(some 13), none, .f (.pick (.t 9) (.c (.bool true)) (.t 12))⟩])
 (.cond (.t 13)
  (.seq (.reg [
    ⟨(some 4), none, .f (.mv (.c (.bool false)))⟩])
  .ret)
  .skip))
 (.seq (.seq (.reg [
   ⟨(some 5), none, .f (.mv (.c (.int .i64 0)))⟩])
 (.block 0 (.loop (.seq (.seq (.reg [
     ⟨(some 14), none, .f (.mv (.t 5))⟩,
     ⟨(some 15), none, .f (.mv (.t 0))⟩,
     ⟨(some 16), none, .f (.len (.t 15))⟩,
     ⟨(some 17), none, .f (.bin .lss (.t 14) (.t 16))⟩])
   (.cond (.t 17)
    .skip
    (.exit 0)))
   (.seq (.block 1 (.seq (.reg [
      ⟨(some 20), none, .f (.mv (.t 0))⟩,
      ⟨(some 21), none, .f (.mv (.t 5))⟩,
      ⟨(some 22), none, .f (.iadr 2 (.t 20) (.t 21))⟩,
      ⟨(some 23), none, .f (.ldA 2 (.t 22))⟩,
      ⟨(some 24), none, .x (.call 114 [(.t 23)])⟩,
      ⟨(some 25), none, .f (.un .not (.t 24))⟩])
    (.cond (.t 25)
     (.seq (.reg [
       ⟨(some 4), none, .f (.mv (.c (.bool false)))⟩])
     .ret)
     .skip)))
   (.reg [
     ⟨(some 18), none, .f (.mv (.t 5))⟩,
     ⟨(some 19), none, .f (.bin .add (.t 18) (.c (.int .i64 1)))⟩,
     ⟨(some 5), none, .f (.mv (.t 19))⟩]))))))
 (.seq (.reg [
   ⟨(some 4), none, .f (.mv (.c (.bool true)))⟩])
 .ret))))
theorem ok79 : fnComp Tryz.prog 79 = some (26, c79, [(.mv (.t 4))]) := by kernel_rfl

/-- loop.example/g00003/spec.l01Join -/
def c80 : CC :=
 (.seq (.reg [
   ⟨(some 4), none, .f (.mv (.c .nilslice))⟩])
 (.seq (.reg [
   ⟨(some 7), none, .f (.mv (.t 0))⟩,
   ⟨(some 8), none, .x (.call 115 [(.t 7)])⟩,
   ⟨(some 5), none, .f (.mv (.t 8))⟩])
 (.seq (.seq (.reg [
   ⟨(some 6), none, .f (.mv (.c (.int .i64 0)))⟩])
 (.block 0 (.loop (.seq (.seq (.reg [
     ⟨(some 9), none, .f (.mv (.t 6))⟩,
     ⟨(some 10), none, .f (.mv (.t 1))⟩,
     ⟨(some 11), none, .f (.len (.t 10))⟩,
     ⟨(some 12), none, .f (.bin .lss (.t 9) (.t 11))⟩])
   (.cond (.t 12)
    .skip
    (.exit 0)))
   (.seq (.block 1 (.reg [
      ⟨(some 15), none, .f (.mv (.t 5))⟩,
      ⟨(some 16), none, .f (.mv (.t 1))⟩,
      ⟨(some 17), none, .f (.mv (.t 6))⟩,
      ⟨(some 18), none, .f (.iadr 1 (.t 16) (.t 17))⟩,
      ⟨(some 19), none, .f (.ld (.t 18))⟩,
      ⟨(some 20), none, .x (.bslice 5 1 [(.int .u8 0)] 1 [(0, (.t 19))])⟩,
      ⟨(some 21), none, .x (.app 5 1 1 (.t 15) (.t 20))⟩,
      ⟨(some 5), none, .f (.mv (.t 21))⟩]))
   (.reg [
     ⟨(some 13), none, .f (.mv (.t 6))⟩,
     ⟨(some 14), none, .f (.bin .add (.t 13) (.c (.int .i64 1)))⟩,
     ⟨(some 6), none, .f (.mv (.t 14))⟩]))))))
 (.seq (.reg [
   ⟨(some 22), none, .f (.mv (.t 5))⟩,
   ⟨(some 4), none, .f (.mv (.t 22))⟩])
 .ret))))
theorem ok80 : fnComp Tryz.prog 80 = some (23, c80, [(.mv (.t 4))]) := by kernel_rfl

/-- loop.example/g00003/impl.okPath -/
def c81 : CC :=
 (.seq (.reg [
   ⟨(some 2), none, .f (.mv (.c (.bool false)))⟩])
 (.seq (.seq (.reg [
   ⟨(some 5), none, .f (.mv (.t 0))⟩,
   ⟨(some 6), none, .f (.lenS (.t 5))⟩,
   ⟨(some 7), none, .f (.bin .lss (.t 6) (.c (.int .i64 1)))⟩,
   ⟨(some 8), none, .f (.mv (.t 7))⟩,
   ⟨(some 9), (some (8, false)), .f (.mv (.t 0))⟩,
   ⟨(some 10), (some (8, false)), .f (.lenS (.t 9))⟩,
   ⟨(some 11), (some (8, false)), .f (.bin .gtr (.t 10) (.c (.int .i64 200)))⟩,
   ⟨(some 12), none, .f (.pick (.t 8) (.c (.bool true)) (.t 11))⟩,
   ⟨(some 13), none, .f (.mv (.t 12))⟩,
   ⟨(some 14), (some (13, false)), .f (.mv (.t 0))⟩,
   ⟨(some 15), (some (13, false)), .f (.idxS (.t 14) (.c (.int .i64 0)))⟩,
   ⟨(some 16), (some (13, false)), .f (.bin .neq (.t 15) (.c (.int .u8 47)))⟩,
   ⟨(some 17), none, .f (.pick (.t 13) (.c (.bool true)) (.t 16))⟩])
 (.cond (.t 17)
  (.seq (.reg [
    ⟨(some 2), none, .f (.mv (.c (.bool false)))⟩])
  .ret)
  .skip))
 (.seq (.seq (.reg [
   ⟨(some 18), none, .f (.mv (.t 0))⟩,
   ⟨(some 19), none, .x (.s2b 5 (.t 18))⟩,
   ⟨(some 20), none, .f (.len (.t 19))⟩,
   ⟨(some 21), none, .f (.mv (.c (.int .i64 0)))⟩])
 (.block 0 (.loop (.seq (.reg [
     ⟨(some 22), none, .f (.bin .lss (.t 21) (.t 20))⟩])
   (.seq (.cond (.t 22)
    .skip
    (.exit 0))
   (.seq (.block 1 (.seq (.reg [
      ⟨(some 23), none, .f (.iadr 1 (.t 19) (.t 21))⟩,
      ⟨(some 24), none, .f (.ld (.t 23))⟩,
      ⟨(some 4), none, .f (.mv (.t 24))⟩])
    (.seq (.reg [
      ⟨(some 25), none, .f (.mv (.t 4))⟩,
      ⟨(some 26), none, .f (.bin .geq (.t 25) (.c (.int .u8 97)))⟩,
      ⟨(some 27), none, .f (.mv (.t 26))⟩,
      ⟨(some 28), (some (27, true)), .f (.mv (.t 4))⟩,
      ⟨(some 29), (some (27, true)), .f (.bin .leq (.t 28) (.c (.int .u8 122)))⟩,
      ⟨(some 30), none, .f (.pick (.t 27) (.t 29) (.c (.bool false)))⟩,
      ⟨(some 31), none, .f (.mv (.t 30))⟩,
      ⟨(some 32), (some (31, false)), .f (.mv (.t 4))⟩,
      ⟨(some 33), (some (31, false)), .f (.bin .geq (.t 32) (.c (.int .u8 65)))⟩,
      ⟨(some 34), (some (31, false)), .f (.mv (.t 33))⟩,
      ⟨(some 35), (some (34, true)), .f (.mv (.t 4))⟩,
      ⟨(some 36), (some (34, true)), .f (.bin .leq (.t 35) (.c (.int .u8 90)))⟩,
      ⟨(some 37), (some (31, false)), .f (.pick (.t 34) (.t 36) (.c (.bool false)))⟩,
      ⟨(some 38), none, .f (.pick (.t 31) (.c (.bool true)) (.t 37))⟩,
      ⟨(some 39), none, .f (.mv (.t 38))⟩,
      ⟨(some 40), (some (39, false)), .f (.mv (.t 4))⟩,
      ⟨(some 41), (some (39, false)), .f (.bin .geq (.t 40) (.c (.int .u8 48)))⟩,
      ⟨(some 42), (some (39, false)), .f (.mv (.t 41))⟩,
      ⟨(some 43), (some (42, true)), .f (.mv (.t 4))⟩,
      ⟨(some 44), (some (42, true)), .f (.bin .leq (.t 43) (.c (.int .u8 57)))⟩,
      ⟨(some 45), (some (39, false)), .f (.pick (.t 42) (.t 44) (.c (.bool false)))⟩,
      ⟨(some 46), none, .f (.pick (.t 39) (.c (.bool true)) (.t 45))⟩,
      ⟨(some 47), none, .f (.mv (.t 46))⟩,
      ⟨(some 48), (some (47, false)), .f (.mv (.t 4))⟩,
      ⟨(some 49), (some (47, false)), .x (.call 116 [(.c (.str [46, 45, 95, 47])), (.t 48)])⟩,
      ⟨(some 50), (some (47, false)), .f (.bin .geq (.t 49) (.c (.int .i64 0)))⟩,
      ⟨(some 51), none, .f (.pick (.t 47) (.c (.bool true)) (.t 50))⟩,
      ⟨(some 52), none, .f (.un .not (.t 51))⟩])
    (.cond (.t 52)
     (.seq (.reg [
       ⟨(some 2), none, .f (.mv (.c (.bool false)))⟩])
     .ret)
     .skip))))
   (.reg [
     ⟨(some 53), none, .f (.bin .add (.t 21) (.c (.int .i64 1)))⟩,
     ⟨(some 21), none, .f (.mv (.t 53))⟩])))))))
 (.seq (.reg [
   ⟨(some 2), none, .f (.mv (.c (.bool true)))⟩])
 .ret))))
theorem ok81 : fnComp Tryz.prog 81 = some (54, c81, [(.mv (.t 2))]) := by kernel_rfl

/-- loop.example/g00003/impl.okRest -/
def c82 : CC :=
 (.seq (.reg [
   ⟨(some 4), none, .f (.mv (.c (.bool false)))⟩])
 (.seq (.reg [
   ⟨(some 5), none, .f (.mv (.t 0))⟩,
   ⟨(some 6), none, .f (.len (.t 5))⟩,
   ⟨(some 7), none, .f (.bin .leq (.t 6) (.c (.int .i64 16)))⟩,
   ⟨(some 8), none, .f (.mv (.t 7))⟩,
   ⟨(some 9), (some (8, true)), .f (.mv (.t 1))⟩,
   ⟨(some 10), (some (8, true)), .f (.len (.t 9))⟩,
   ⟨(some 11), (some (8, true)), .f (.bin .leq (.t 10) (.c (.int .i64 60000)))⟩,
   ⟨(some 12), none, .f (.pick (.t 8) (.t 11) (.c (.bool false)))⟩,
   ⟨(some 13), none, .f (.mv (.t 12))⟩,
   ⟨(some 14), (some (13, true)), .f (.mv (.t 0))⟩,
   ⟨(some 15), (some (13, true)), .x (.call 117 [(.t 14), (.fn 118)])⟩,
   ⟨(some 16), (some (13, true)), .f (.un .not (.t 15))⟩,
   ⟨(some 17), none, .f (.pick (.t 13) (.t 16) (.c (.bool false)))⟩,
   ⟨(some 4), none, .f (.mv (.t 17))⟩])
 .ret))
theorem ok82 : fnComp Tryz.prog 82 = some (18, c82, [(.mv (.t 4))]) := by kernel_rfl

/-- loop.example/g00003/impl.oneMessage -/
def c83 : CC :=
 (.seq (.reg [
   ⟨(some 4), none, .x (.zero 144 4 [(.str []), .nilslice, .nilslice, (.int .i64 0)])⟩,
   ⟨(some 5), none, .f (.mv (.c (.bool false)))⟩,
   ⟨(some 6), none, .f (.mv (.c (.int .i64 0)))⟩])
 (.seq (.reg [
   ⟨(some 7), none, .x (.zero 144 4 [(.str []), .nilslice, .nilslice, (.int .i64 0)])⟩])
 (.seq (.reg [
   ⟨(some 17), none, .f (.mv (.t 0))⟩,
   ⟨(some 18), none, .f (.mv (.t 0))⟩,
   ⟨(some 19), none, .f (.len (.t 18))⟩,
   ⟨(some 20), none, .f (.mm false (.t 19) (.c (.int .i64 8000)))⟩,
   ⟨(some 21), none, .f (.slc 1 (.t 17) none (some (.t 20)) none)⟩,
   ⟨(some 8), none, .f (.mv (.t 21))⟩])
 (.seq (.reg [
   ⟨(some 22), none, .f (.mv (.t 8))⟩,
   ⟨(some 23), none, .x (.bslice 5 1 [(.int .u8 0)] 2 [(0, (.c (.int .u8 10))), (1, (.c (.int .u8 10)))])⟩,
   ⟨(some 24), none, .x (.ux .smark [(.t 23)])⟩,
   ⟨(some 25), none, .x (.call 120 [(.t 22), (.t 24)])⟩,
   ⟨(some 9), none, .f (.mv (.t 25))⟩])
 (.seq (.seq (.reg [
   ⟨(some 26), none, .f (.mv (.t 0))⟩,
   ⟨(some 27), none, .f (.len (.t 26))⟩,
   ⟨(some 28), none, .f (.bin .gtr (.t 27) (.c (.int .i64 0)))⟩,
   ⟨(some 29), none, .f (.mv (.t 28))⟩,
   ⟨(some 30), (some (29, true)), .f (.mv (.t 0))⟩,
   ⟨(some 31), (some (29, true)), .f (.iadr 1 (.t 30) (.c (.int .i64 0)))⟩,
   ⟨(some 32), (some (29, true)), .f (.ld (.t 31))⟩,
   ⟨(some 33), (some (29, true)), .f (.bin .eql (.t 32) (.c (.int .u8 10)))⟩,
   ⟨(some 34), none, .f (.pick (.t 29) (.t 33) (.c (.bool false)))⟩])
 (.cond (.t 34)
  (.seq (.reg [
    ⟨(some 35), none, .f (.ldA 4 (.t 7))⟩,
    ⟨none, none, .x (.st 4 (.t 4) (.t 35))⟩,
    ⟨(some 5), none, .f (.mv (.c (.bool false)))⟩,
    ⟨(some 6), none, .f (.mv (.c (.int .i64 19)))⟩])
  .ret)
  .skip))
 (.seq (.seq (.reg [
   ⟨(some 36), none, .f (.mv (.t 9))⟩,
   ⟨(some 37), none, .f (.bin .lss (.t 36) (.c (.int .i64 0)))⟩])
 (.cond (.t 37)
  (.seq (.seq (.reg [
    ⟨(some 38), none, .f (.mv (.t 0))⟩,
    ⟨(some 39), none, .f (.len (.t 38))⟩,
    ⟨(some 40), none, .f (.bin .geq (.t 39) (.c (.int .i64 8000)))⟩])
  (.cond (.t 40)
   (.seq (.reg [
     ⟨(some 41), none, .f (.ldA 4 (.t 7))⟩,
     ⟨none, none, .x (.st 4 (.t 4) (.t 41))⟩,
     ⟨(some 5), none, .f (.mv (.c (.bool false)))⟩,
     ⟨(some 6), none, .f (.mv (.c (.int .i64 7)))⟩])
   .ret)
   .skip))
  (.seq (.reg [
    ⟨(some 42), none, .f (.ldA 4 (.t 7))⟩,
    ⟨none, none, .x (.st 4 (.t 4) (.t 42))⟩,
    ⟨(some 5), none, .f (.mv (.c (.bool false)))⟩,
    ⟨(some 6), none, .f (.mv (.c (.int .i64 0)))⟩])
  .ret))
  .skip))
 (.seq (.reg [
   ⟨(some 43), none, .f (.mv (.t 0))⟩,
   ⟨(some 44), none, .f (.mv (.t 9))⟩,
   ⟨(some 45), none, .f (.slc 1 (.t 43) none (some (.t 44)) none)⟩,
   ⟨(some 46), none, .f (.b2s (.t 45))⟩,
   ⟨(some 47), none, .x (.call 121 [(.t 46), (.c (.str [10]))])⟩,
   ⟨(some 10), none, .f (.mv (.t 47))⟩])
 (.seq (.reg [
   ⟨(some 48), none, .f (.mv (.t 10))⟩,
   ⟨(some 49), none, .f (.iadr 1 (.t 48) (.c (.int .i64 0)))⟩,
   ⟨(some 50), none, .f (.ld (.t 49))⟩,
   ⟨(some 51), none, .f (.fadr 0 (.t 7))⟩,
   ⟨none, none, .x (.st 1 (.t 51) (.t 50))⟩])
 (.seq (.reg [
   ⟨(some 11), none, .f (.mv (.c (.int .i64 0)))⟩])
 (.seq (.seq (.reg [
   ⟨(some 52), none, .f (.mv (.t 10))⟩,
   ⟨(some 53), none, .f (.slc 1 (.t 52) (some (.c (.int .i64 1))) none none)⟩,
   ⟨(some 54), none, .f (.len (.t 53))⟩,
   ⟨(some 55), none, .f (.mv (.c (.int .i64 0)))⟩])
 (.block 0 (.loop (.seq (.reg [
     ⟨(some 56), none, .f (.bin .lss (.t 55) (.t 54))⟩])
   (.seq (.cond (.t 56)
    .skip
    (.exit 0))
   (.seq (.block 1 (.seq (.reg [
      ⟨(some 57), none, .f (.mv (.t 55))⟩,
      ⟨(some 58), none, .f (.iadr 1 (.t 53) (.t 55))⟩,
      ⟨(some 59), none, .f (.ld (.t 58))⟩,
      ⟨(some 12), none, .f (.mv (.t 57))⟩,
      ⟨(some 13), none, .f (.mv (.t 59))⟩])
    (.seq (.reg [
      ⟨(some 61), none, .f (.mv (.t 13))⟩,
      ⟨(some 62), none, .x (.call 85 [(.t 61), (.c (.str [58, 32]))])⟩,
      ⟨(some 60), none, .f (.mv (.t 62))⟩,
      ⟨(some 63), none, .f (.ext 0 (.t 60))⟩,
      ⟨(some 64), none, .f (.ext 1 (.t 60))⟩,
      ⟨(some 65), none, .f (.ext 2 (.t 60))⟩,
      ⟨(some 14), none, .f (.mv (.t 63))⟩,
      ⟨(some 15), none, .f (.mv (.t 64))⟩,
      ⟨(some 16), none, .f (.mv (.t 65))⟩])
    (.seq (.seq (.reg [
      ⟨(some 66), none, .f (.mv (.t 16))⟩,
      ⟨(some 67), none, .f (.un .not (.t 66))⟩])
    (.cond (.t 67)
     (.seq (.reg [
       ⟨(some 68), none, .f (.ldA 4 (.t 7))⟩,
       ⟨none, none, .x (.st 4 (.t 4) (.t 68))⟩,
       ⟨(some 5), none, .f (.mv (.c (.bool false)))⟩,
       ⟨(some 6), none, .f (.mv (.c (.int .i64 19)))⟩])
     .ret)
     .skip))
    (.seq (.seq (.reg [
      ⟨(some 69), none, .f (.mv (.t 14))⟩,
      ⟨(some 70), none, .f (.bin .eql (.t 69) (.c (.str [108, 101, 110, 103, 116, 104])))⟩,
      ⟨(some 71), none, .f (.mv (.t 70))⟩,
      ⟨(some 72), (some (71, true)), .f (.mv (.t 12))⟩,
      ⟨(some 73), (some (71, true)), .f (.mv (.t 10))⟩,
      ⟨(some 74), (some (71, true)), .f (.len (.t 73))⟩,
      ⟨(some 75), (some (71, true)), .f (.bin .sub (.t 74) (.c (.int .i64 2)))⟩,
      ⟨(some 76), (some (71, true)), .f (.bin .eql (.t 72) (.t 75))⟩,
      ⟨(some 77), none, .f (.pick (.t 71) (.t 76) (.c (.bool false)))⟩])
    (.cond (.t 77)
     (.seq (.reg [
       ⟨(some 79), none, .f (.mv (.t 15))⟩,
       ⟨(some 80), none, .x (.call 90 [(.t 79), (.c (.int .i64 5))])⟩,
       ⟨(some 78), none, .f (.mv (.t 80))⟩,
       ⟨(some 81), none, .f (.ext 0 (.t 78))⟩,
       ⟨(some 82), none, .f (.ext 1 (.t 78))⟩,
       ⟨(some 11), none, .f (.mv (.t 81))⟩,
       ⟨(some 16), none, .f (.mv (.t 82))⟩])
     (.seq (.seq (.reg [
       ⟨(some 83), none, .f (.mv (.t 16))⟩,
       ⟨(some 84), none, .f (.un .not (.t 83))⟩,
       ⟨(some 85), none, .f (.mv (.t 84))⟩,
       ⟨(some 86), (some (85, false)), .f (.mv (.t 11))⟩,
       ⟨(some 87), (some (85, false)), .f (.bin .lss (.t 86) (.c (.int .i64 1)))⟩,
       ⟨(some 88), none, .f (.pick (.t 85) (.c (.bool true)) (.t 87))⟩,
       ⟨(some 89), none, .f (.mv (.t 88))⟩,
       ⟨(some 90), (some (89, false)), .f (.mv (.t 11))⟩,
       ⟨(some 91), (some (89, false)), .f (.bin .gtr (.t 90) (.c (.int .i64 60000)))⟩,
       ⟨(some 92), none, .f (.pick (.t 89) (.c (.bool true)) (.t 91))⟩])
     (.cond (.t 92)
      (.seq (.reg [
        ⟨(some 93), none, .f (.ldA 4 (.t 7))⟩,
        ⟨none, none, .x (.st 4 (.t 4) (.t 93))⟩,
        ⟨(some 5), none, .f (.mv (.c (.bool false)))⟩,
        ⟨(some 6), none, .f (.mv (.c (.int .i64 19)))⟩])
      .ret)
      .skip))
     (.exit 0)))
     .skip))
    (.reg [
      ⟨(some 94), none, .f (.fadr 1 (.t 7))⟩,
      ⟨(some 95), none, .f (.ld (.t 94))⟩,
      ⟨(some 96), none, .f (.mv (.t 14))⟩,
      ⟨(some 97), none, .f (.mv (.t 15))⟩,
      ⟨(some 98), none, .f (.build [(.str []), (.str [])] [(0, 1, (.t 96)), (1, 1, (.t 97))])⟩,
      ⟨(some 99), none, .x (.bslice 106 2 [(.str []), (.str [])] 1 [(0, (.t 98))])⟩,
      ⟨(some 100), none, .x (.app 106 2 32 (.t 95) (.t 99))⟩,
      ⟨(some 101), none, .f (.fadr 1 (.t 7))⟩,
      ⟨none, none, .x (.st 1 (.t 101) (.t 100))⟩]))))))
   (.reg [
     ⟨(some 102), none, .f (.bin .add (.t 55) (.c (.int .i64 1)))⟩,
     ⟨(some 55), none, .f (.mv (.t 102))⟩])))))))
 (.seq (.seq (.reg [
   ⟨(some 103), none, .f (.fadr 1 (.t 7))⟩,
   ⟨(some 104), none, .f (.ld (.t 103))⟩,
   ⟨(some 105), none, .x (.call 82 [(.t 104), (.c .nilslice)])⟩,
   ⟨(some 106), none, .f (.un .not (.t 105))⟩,
   ⟨(some 107), none, .f (.mv (.t 106))⟩,
   ⟨(some 108), (some (107, false)), .f (.mv (.t 1))⟩,
   ⟨(some 109), (some (107, false)), .f (.fadr 0 (.t 7))⟩,
   ⟨(some 110), (some (107, false)), .f (.ld (.t 109))⟩,
   ⟨(some 111), (some (107, false)), .f (.fadr 1 (.t 7))⟩,
   ⟨(some 112), (some (107, false)), .f (.ld (.t 111))⟩,
   ⟨(some 113), (some (107, false)), .x (.callv (.t 108) [(.t 110), (.t 112)])⟩,
   ⟨(some 114), (some (107, false)), .f (.un .not (.t 113))⟩,
   ⟨(some 115), none, .f (.pick (.t 107) (.c (.bool true)) (.t 114))⟩])
 (.cond (.t 115)
  (.seq (.reg [
    ⟨(some 116), none, .f (.ldA 4 (.t 7))⟩,
    ⟨none, none, .x (.st 4 (.t 4) (.t 116))⟩,
    ⟨(some 5), none, .f (.mv (.c (.bool false)))⟩,
    ⟨(some 6), none, .f (.mv (.c (.int .i64 19)))⟩])
  .ret)
  .skip))
 (.seq (.reg [
   ⟨(some 117), none, .f (.mv (.t 9))⟩,
   ⟨(some 118), none, .f (.bin .add (.t 117) (.c (.int .i64 2)))⟩,
   ⟨(some 119), none, .f (.mv (.t 11))⟩,
   ⟨(some 120), none, .f (.bin .add (.t 118) (.t 119))⟩,
   ⟨(some 121), none, .f (.fadr 3 (.t 7))⟩,
   ⟨none, none, .x (.st 1 (.t 121) (.t 120))⟩])
 (.seq (.seq (.reg [
   ⟨(some 122), none, .f (.fadr 3 (.t 7))⟩,
   ⟨(some 123), none, .f (.ld (.t 122))⟩,
   ⟨(some 124), none, .f (.mv (.t 0))⟩,
   ⟨(some 125), none, .f (.len (.t 124))⟩,
   ⟨(some 126), none, .f (.bin .gtr (.t 123) (.t 125))⟩])
 (.cond (.t 126)
  (.seq (.reg [
    ⟨(some 127), none, .f (.ldA 4 (.t 7))⟩,
    ⟨none, none, .x (.st 4 (.t 4) (.t 127))⟩,
    ⟨(some 5), none, .f (.mv (.c (.bool false)))⟩,
    ⟨(some 6), none, .f (.mv (.c (.int .i64 0)))⟩])
  .ret)
  .skip))
 (.seq (.reg [
   ⟨(some 128), none, .f (.mv (.t 0))⟩,
   ⟨(some 129), none, .f (.mv (.t 9))⟩,
   ⟨(some 130), none, .f (.bin .add (.t 129) (.c (.int .i64 2)))⟩,
   ⟨(some 131), none, .f (.fadr 3 (.t 7))⟩,
   ⟨(some 132), none, .f (.ld (.t 131))⟩,
   ⟨(some 133), none, .f (.slc 1 (.t 128) (some (.t 130)) (some (.t 132)) none)⟩,
   ⟨(some 134), none, .x (.call 122 [(.t 133)])⟩,
   ⟨(some 135), none, .f (.fadr 2 (.t 7))⟩,
   ⟨none, none, .x (.st 1 (.t 135) (.t 134))⟩])
 (.seq (.reg [
   ⟨(some 136), none, .f (.ldA 4 (.t 7))⟩,
   ⟨none, none, .x (.st 4 (.t 4) (.t 136))⟩,
   ⟨(some 5), none, .f (.mv (.c (.bool true)))⟩,
   ⟨(some 6), none, .f (.mv (.c (.int .i64 0)))⟩])
 .ret)))))))))))))))
theorem ok83 : fnComp Tryz.prog 83 = some (137, c83, [(.ldA 4 (.t 4)), (.mv (.t 5)), (.mv (.t 6))]) := by kernel_rfl

/-- loop.example/g00003/impl.readAll[loop.example/g00003/impl.Request]$1 -/
def c84 : CC :=
 (.seq (.reg [
   ⟨(some 5), none, .f (.mv (.c (.bool false)))⟩])
 (.seq (.reg [
   ⟨(some 9), none, .f (.ld (.t 2))⟩,
   ⟨(some 10), none, .f (.mv (.t 0))⟩,
   ⟨(some 11), none, .f (.mv (.t 1))⟩,
   ⟨(some 12), none, .f (.build [(.str []), .nilslice, .nilslice, (.int .i64 0)] [(0, 1, (.t 10)), (1, 1, (.t 11))])⟩,
   ⟨(some 13), none, .x (.callv (.t 9) [(.t 12)])⟩,
   ⟨(some 8), none, .f (.mv (.t 13))⟩,
   ⟨(some 14), none, .f (.ext 0 (.t 8))⟩,
   ⟨(some 15), none, .f (.ext 1 (.t 8))⟩,
   ⟨(some 6), none, .x (.zero 38 4 [(.str []), (.str []), .nilslice, .nilslice])⟩,
   ⟨none, none, .x (.st 4 (.t 6) (.t 14))⟩,
   ⟨(some 7), none, .f (.mv (.t 15))⟩])
 (.seq (.reg [
   ⟨(some 16), none, .f (.mv (.t 7))⟩,
   ⟨(some 5), none, .f (.mv (.t 16))⟩])
 .ret)))
theorem ok84 : fnComp Tryz.prog 84 = some (17, c84, [(.mv (.t 5))]) := by kernel_rfl

/-- loop.example/g00003/spec.l20Mark -/
def c86 : CC :=
 (.seq (.reg [
   ⟨(some 2), none, .x (.zero 106 2 [(.str []), (.str [])])⟩])
 (.seq (.reg [
   ⟨(some 3), none, .f (.mv (.t 0))⟩,
   ⟨(some 4), none, .x (.call 124 [(.t 3)])⟩,
   ⟨(some 5), none, .x (.call 25 [(.t 4)])⟩,
   ⟨(some 6), none, .f (.build [(.str []), (.str [])] [(0, 1, (.c (.str [109, 97, 114, 107]))), (1, 1, (.t 5))])⟩,
   ⟨none, none, .x (.st 2 (.t 2) (.t 6))⟩])
 .ret))
theorem ok86 : fnComp Tryz.prog 86 = some (7, c86, [(.ldA 2 (.t 2))]) := by kernel_rfl

/-- loop.example/g00003/spec.l01Bytes -/
def c87 : CC :=
 (.seq (.reg [
   ⟨(some 4), none, .f (.mv (.c .nilslice))⟩])
 (.seq (.reg [
   ⟨(some 7), none, .x (.bslice 5 1 [(.int .u8 0)] 0 [])⟩,
   ⟨(some 5), none, .f (.mv (.t 7))⟩])
 (.seq (.seq (.reg [
   ⟨(some 6), none, .f (.mv (.c (.int .i64 0)))⟩])
 (.block 0 (.loop (.seq (.seq (.reg [
     ⟨(some 8), none, .f (.mv (.t 6))⟩,
     ⟨(some 9), none, .f (.mv (.t 1))⟩,
     ⟨(some 10), none, .f (.bin .lss (.t 8) (.t 9))⟩])
   (.cond (.t 10)
    .skip
    (.exit 0)))
   (.seq (.block 1 (.reg [
      ⟨(some 13), none, .f (.mv (.t 5))⟩,
      ⟨(some 14), none, .f (.mv (.t 0))⟩,
      ⟨(some 15), none, .x (.call 43 [(.t 14), (.c (.int .i64 256))])⟩,
      ⟨(some 16), none, .f (.cvI .u8 (.t 15))⟩,
      ⟨(some 17), none, .x (.bslice 5 1 [(.int .u8 0)] 1 [(0, (.t 16))])⟩,
      ⟨(some 18), none, .x (.app 5 1 1 (.t 13) (.t 17))⟩,
      ⟨(some 5), none, .f (.mv (.t 18))⟩]))
   (.reg [
     ⟨(some 11), none, .f (.mv (.t 6))⟩,
     ⟨(some 12), none, .f (.bin .add (.t 11) (.c (.int .i64 1)))⟩,
     ⟨(some 6), none, .f (.mv (.t 12))⟩]))))))
 (.seq (.reg [
   ⟨(some 19), none, .f (.mv (.t 5))⟩,
   ⟨(some 4), none, .f (.mv (.t 19))⟩])
 .ret))))
theorem ok87 : fnComp Tryz.prog 87 = some (20, c87, [(.mv (.t 4))]) := by kernel_rfl

/-- loop.example/g00003/impl.readAll[loop.example/g00003/impl.Reply]$1 -/
def c88 : CC :=
 (.seq (.reg [
   ⟨(some 5), none, .f (.mv (.c (.bool false)))⟩])
 (.seq (.reg [
   ⟨(some 9), none, .f (.ld (.t 2))⟩,
   ⟨(some 10), none, .f (.mv (.t 0))⟩,
   ⟨(some 11), none, .f (.mv (.t 1))⟩,
   ⟨(some 12), none, .f (.build [(.str []), .nilslice, .nilslice, (.int .i64 0)] [(0, 1, (.t 10)), (1, 1, (.t 11))])⟩,
   ⟨(some 13), none, .x (.callv (.t 9) [(.t 12)])⟩,
   ⟨(some 8), none, .f (.mv (.t 13))⟩,
   ⟨(some 14), none, .f (.ext 0 (.t 8))⟩,
   ⟨(some 15), none, .f (.ext 1 (.t 8))⟩,
   ⟨(some 6), none, .x (.zero 48 3 [(.int .i64 0), .nilslice, .nilslice])⟩,
   ⟨none, none, .x (.st 3 (.t 6) (.t 14))⟩,
   ⟨(some 7), none, .f (.mv (.t 15))⟩])
 (.seq (.reg [
   ⟨(some 16), none, .f (.mv (.t 7))⟩,
   ⟨(some 5), none, .f (.mv (.t 16))⟩])
 .ret)))
theorem ok88 : fnComp Tryz.prog 88 = some (17, c88, [(.mv (.t 5))]) := by kernel_rfl

/-- strings.CutPrefix -/
def c89 : CC :=
 (.seq (.reg [
   ⟨(some 4), none, .f (.mv (.c (.str [])))⟩,
   ⟨(some 5), none, .f (.mv (.c (.bool false)))⟩])
 (.seq (.reg [
   ⟨(some 6), none, .f (.mv (.t 0))⟩,
   ⟨(some 7), none, .f (.mv (.t 1))⟩,
   ⟨(some 8), none, .x (.call 125 [(.t 6), (.t 7)])⟩,
   ⟨(some 9), none, .f (.ext 0 (.t 8))⟩,
   ⟨(some 10), none, .f (.ext 1 (.t 8))⟩,
   ⟨(some 4), none, .f (.mv (.t 9))⟩,
   ⟨(some 5), none, .f (.mv (.t 10))⟩])
 .ret))
theorem ok89 : fnComp Tryz.prog 89 = some (11, c89, [(.mv (.t 4)), (.mv (.t 5))]) := by kernel_rfl

/-- loop.example/g00003/impl.decimal -/
def c90 : CC :=
 (.seq (.reg [
   ⟨(some 4), none, .f (.mv (.c (.int .i64 0)))⟩,
   ⟨(some 5), none, .f (.mv (.c (.bool false)))⟩])
 (.seq (.seq (.reg [
   ⟨(some 9), none, .f (.mv (.t 0))⟩,
   ⟨(some 10), none, .f (.lenS (.t 9))⟩,
   ⟨(some 11), none, .f (.bin .eql (.t 10) (.c (.int .i64 0)))⟩,
   ⟨(some 12), none, .f (.mv (.t 11))⟩,
   ⟨(some 13), (some (12, false)), .f (.mv (.t 0))⟩,
   ⟨(some 14), (some (12, false)), .f (.lenS (.t 13))⟩,
   ⟨(some 15), (some (12, false)), .f (.mv (.t 1))⟩,
   ⟨(some 16), (some (12, false)), .f (.bin .gtr (.t 14) (.t 15))⟩,
   ⟨(some 17), none, .f (.pick (.t 12) (.c (.bool true)) (.t 16))⟩,
   ⟨(some 18), none, .f (.mv (.t 17))⟩,
   ⟨(some 19), (some (18, false)), .f (.mv (.t 0))⟩,
   ⟨(some 20), (some (18, false)), .f (.lenS (.t 19))⟩,
   ⟨(some 21), (some (18, false)), .f (.bin .gtr (.t 20) (.c (.int .i64 1)))⟩,
   ⟨(some 22), (some (18, false)), .f (.mv (.t 21))⟩,
   ⟨(some 23), (some (22, true)), .f (.mv (.t 0))⟩,
   ⟨(some 24), (some (22, true)), .f (.idxS (.t 23) (.c (.int .i64 0)))⟩,
   ⟨(some 25), (some (22, true)), .f (.bin .eql (.t 24) (.c (.int .u8 48)))⟩,
   ⟨(some 26), (some (18, false)), .f (.pick (.t 22) (.t 25) (.c (.bool false)))⟩,
   ⟨(some 27), none, .f (.pick (.t 18) (.c (.bool true)) (.t 26))⟩])
 (.cond (.t 27)
  (.seq (.reg [
    ⟨(some 4), none, .f (.mv (.c (.int .i64 0)))⟩,
    ⟨(some 5), none, .f (.mv (.c (.bool false)))⟩])
  .ret)
  .skip))
 (.seq (.reg [
   ⟨(some 6), none, .f (.mv (.c (.int .i64 0)))⟩])
 (.seq (.seq (.reg [
   ⟨(some 28), none, .f (.mv (.t 0))⟩,
   ⟨(some 29), none, .x (.s2b 5 (.t 28))⟩,
   ⟨(some 30), none, .f (.len (.t 29))⟩,
   ⟨(some 31), none, .f (.mv (.c (.int .i64 0)))⟩])
 (.block 0 (.loop (.seq (.reg [
     ⟨(some 32), none, .f (.bin .lss (.t 31) (.t 30))⟩])
   (.seq (.cond (.t 32)
    .skip
    (.exit 0))
   (.seq (.block 1 (.seq (.reg [
      ⟨(some 33), none, .f (.iadr 1 (.t 29) (.t 31))⟩,
      ⟨(some 34), none, .f (.ld (.t 33))⟩,
      ⟨(some 8), none, .f (.mv (.t 34))⟩])
    (.seq (.seq (.reg [
      ⟨(some 35), none, .f (.mv (.t 8))⟩,
      ⟨(some 36), none, .f (.bin .lss (.t 35) (.c (.int .u8 48)))⟩,
      ⟨(some 37), none, .f (.mv (.t 36))⟩,
      ⟨(some 38), (some (37, false)), .f (.mv (.t 8))⟩,
      ⟨(some 39), (some (37, false)), .f (.bin .gtr (.t 38) (.c (.int .u8 57)))⟩,
      ⟨(some 40), none, .f (.pick (.t 37) (.c (.bool true)) (.t 39))⟩])
    (.cond (.t 40)
     (.seq (.reg [
       ⟨(some 4), none, .f (.mv (.c (.int .i64 0)))⟩,
       ⟨(some 5), none, .f (.mv (.c (.bool false)))⟩])
     .ret)
     .skip))
    (.reg [
      ⟨(some 41), none, .f (.mv (.t 6))⟩,
      ⟨(some 42), none, .f (.bin .mul (.t 41) (.c (.int .i64 10)))⟩,
      ⟨(some 43), none, .f (.mv (.t 8))⟩,
      ⟨(some 44), none, .f (.bin .sub (.t 43) (.c (.int .u8 48)))⟩,
      ⟨(some 45), none, .f (.cvI .i64 (.t 44))⟩,
      ⟨(some 46), none, .f (.bin .add (.t 42) (.t 45))⟩,
      ⟨(some 6), none, .f (.mv (.t 46))⟩]))))
   (.reg [
     ⟨(some 47), none, .f (.bin .add (.t 31) (.c (.int .i64 1)))⟩,
     ⟨(some 31), none, .f (.mv (.t 47))⟩])))))))
 (.seq (.reg [
   ⟨(some 48), none, .f (.mv (.t 6))⟩,
   ⟨(some 4), none, .f (.mv (.t 48))⟩,
   ⟨(some 5), none, .f (.mv (.c (.bool true)))⟩])
 .ret)))))
theorem ok90 : fnComp Tryz.prog 90 = some (49, c90, [(.mv (.t 4)), (.mv (.t 5))]) := by kernel_rfl

/-- loop.example/g00003/spec.l20Plain -/
def c113 : CC :=
 (.seq (.reg [
   ⟨(some 2), none, .f (.mv (.c (.bool false)))⟩])
 (.seq (.reg [
   ⟨(some 3), none, .f (.mv (.t 0))⟩,
   ⟨(some 4), none, .f (.bin .geq (.t 3) (.c (.int .u8 97)))⟩,
   ⟨(some 5), none, .f (.mv (.t 4))⟩,
   ⟨(some 6), (some (5, true)), .f (.mv (.t 0))⟩,
   ⟨(some 7), (some (5, true)), .f (.bin .leq (.t 6) (.c (.int .u8 122)))⟩,
   ⟨(some 8), none, .f (.pick (.t 5) (.t 7) (.c (.bool false)))⟩,
   ⟨(some 9), none, .f (.mv (.t 8))⟩,
   ⟨(some 10), (some (9, false)), .f (.mv (.t 0))⟩,
   ⟨(some 11), (some (9, false)), .f (.bin .geq (.t 10) (.c (.int .u8 65)))⟩,
   ⟨(some 12), (some (9, false)), .f (.mv (.t 11))⟩,
   ⟨(some 13), (some (12, true)), .f (.mv (.t 0))⟩,
   ⟨(some 14), (some (12, true)), .f (.bin .leq (.t 13) (.c (.int .u8 90)))⟩,
   ⟨(some 15), (some (9, false)), .f (.pick (.t 12) (.t 14) (.c (.bool false)))⟩,
   ⟨(some 16), none, .f (.pick (.t 9) (.c (.bool true)) (.t 15))⟩,
   ⟨(some 17), none, .f (.mv (.t 16))⟩,
   ⟨(some 18), (some (17, false)), .f (.mv (.t 0))⟩,
   ⟨(some 19), (some (17, false)), .f (.bin .geq (.t 18) (.c (.int .u8 48)))⟩,
   ⟨(some 20), (some (17, false)), .f (.mv (.t 19))⟩,
   ⟨(some 21), (some (20, true)), .f (.mv (.t 0))⟩,
   ⟨(some 22), (some (20, true)), .f (.bin .leq (.t 21) (.c (.int .u8 57)))⟩,
   ⟨(some 23), (some (17, false)), .f (.pick (.t 20) (.t 22) (.c (.bool false)))⟩,
   ⟨(some 24), none, .f (.pick (.t 17) (.c (.bool true)) (.t 23))⟩,
   ⟨(some 25), none, .f (.mv (.t 24))⟩,
   ⟨(some 26), (some (25, false)), .f (.mv (.t 0))⟩,
   ⟨(some 27), (some (25, false)), .f (.bin .eql (.t 26) (.c (.int .u8 46)))⟩,
   ⟨(some 28), none, .f (.pick (.t 25) (.c (.bool true)) (.t 27))⟩,
   ⟨(some 29), none, .f (.mv (.t 28))⟩,
   ⟨(some 30), (some (29, false)), .f (.mv (.t 0))⟩,
   ⟨(some 31), (some (29, false)), .f (.bin .eql (.t 30) (.c (.int .u8 45)))⟩,
   ⟨(some 32), none, .f (.pick (.t 29) (.c (.bool true)) (.t 31))⟩,
   ⟨(some 33), none, .f (.mv (.t 32))⟩,
   ⟨(some 34), (some (33, false)), .f (.mv (.t 0))⟩,
   ⟨(some 35), (some (33, false)), .f (.bin .eql (.t 34) (.c (.int .u8 95)))⟩,
   ⟨(some 36), none, .f (.pick (.t 33) (.c (.bool true)) (.t 35))⟩,
   ⟨(some 37), none, .f (.mv (.t 36))⟩,
   ⟨(some 38), (some (37, false)), .f (.mv (.t 0))⟩,
   ⟨(some 39), (some (37, false)), .f (.bin .eql (.t 38) (.c (.int .u8 47)))⟩,
   ⟨(some 40), none, .f (.pick (.t 37) (.c (.bool true)) (.t 39))⟩,
   ⟨(some 41), none, .f (.mv (.t 40))⟩,
   ⟨(some 42), (some (41, false)), .f (.mv (.t 0))⟩,
   ⟨(some 43), (some (41, false)), .f (.bin .eql (.t 42) (.c (.int .u8 58)))⟩,
   ⟨(some 44), none, .f (.pick (.t 41) (.c (.bool true)) (.t 43))⟩,
   ⟨(some 2), none, .f (.mv (.t 44))⟩])
 .ret))
theorem ok113 : fnComp Tryz.prog 113 = some (45, c113, [(.mv (.t 2))]) := by kernel_rfl

/-- loop.example/g00003/spec.l20FieldOK -/
def c114 : CC :=
 (.seq (.reg [
   ⟨(some 1), none, .x (.box 106 2 (.t 0))⟩,
   ⟨(some 2), none, .f (.mv (.c (.bool false)))⟩])
 (.seq (.seq (.reg [
   ⟨(some 5), none, .f (.fadr 0 (.t 1))⟩,
   ⟨(some 6), none, .f (.ld (.t 5))⟩,
   ⟨(some 7), none, .f (.lenS (.t 6))⟩,
   ⟨(some 8), none, .f (.bin .lss (.t 7) (.c (.int .i64 1)))⟩,
   ⟨(some 9), none, .f (.mv (.t 8))⟩,
   ⟨(some 10), (some (9, false)), .f (.fadr 0 (.t 1))⟩,
   ⟨(some 11), (some (9, false)), .f (.ld (.t 10))⟩,
   ⟨(some 12), (some (9, false)), .f (.lenS (.t 11))⟩,
   ⟨(some 13), (some (9, false)), .f (.bin .gtr (.t 12) (.c (.int .i64 40)))⟩,
   ⟨(some 14), none, .f (.pick (.t 9) (.c (.bool true)) (.t 13))⟩,
   ⟨(some 15), none, .f (.mv (.t 14))⟩,
   ⟨(some 16), (some (15, false)), .f (.fadr 0 (.t 1))⟩,
   ⟨(some 17), (some (15, false)), .f (.ld (.t 16))⟩,
   ⟨(some 18), (some (15, false)), .f (.bin .eql (.t 17) (.c (.str [108, 101, 110, 103, 116, 104])))⟩,
   ⟨(some 19), none, .f (.pick (.t 15) (.c (.bool true)) (.t 18))⟩,
   ⟨(some 20), none, .f (.mv (.t 19))⟩,
   ⟨(some 21), (some (20, false)), .f (.fadr 1 (.t 1))⟩,
   ⟨(some 22), (some (20, false)), .f (.ld (.t 21))⟩,
   ⟨(some 23), (some (20, false)), .f (.lenS (.t 22))⟩,
   ⟨(some 24), (some (20, false)), .f (.bin .gtr (.t 23) (.c (.int .i64 200)))⟩,
   ⟨(some 25), none, .f (.pick (.t 20) (.c (.bool true)) (.t 24))⟩])
 (.cond (.t 25)
  (.seq (.reg [
    ⟨(some 2), none, .f (.mv (.c (.bool false)))⟩])
  .ret)
  .skip))
 (.seq (.seq (.reg [
   ⟨(some 3), none, .f (.mv (.c (.int .i64 0)))⟩])
 (.block 0 (.loop (.seq (.seq (.reg [
     ⟨(some 26), none, .f (.mv (.t 3))⟩,
     ⟨(some 27), none, .f (.fadr 0 (.t 1))⟩,
     ⟨(some 28), none, .f (.ld (.t 27))⟩,
     ⟨(some 29), none, .f (.lenS (.t 28))⟩,
     ⟨(some 30), none, .f (.bin .lss (.t 26) (.t 29))⟩])
   (.cond (.t 30)
    .skip
    (.exit 0)))
   (.seq (.block 1 (.seq (.reg [
      ⟨(some 33), none, .f (.fadr 0 (.t 1))⟩,
      ⟨(some 34), none, .f (.ld (.t 33))⟩,
      ⟨(some 35), none, .f (.mv (.t 3))⟩,
      ⟨(some 36), none, .f (.idxS (.t 34) (.t 35))⟩,
      ⟨(some 37), none, .f (.bin .lss (.t 36) (.c (.int .u8 97)))⟩,
      ⟨(some 38), none, .f (.mv (.t 37))⟩,
      ⟨(some 39), (some (38, false)), .f (.fadr 0 (.t 1))⟩,
      ⟨(some 40), (some (38, false)), .f (.ld (.t 39))⟩,
      ⟨(some 41), (some (38, false)), .f (.mv (.t 3))⟩,
      ⟨(some 42), (some (38, false)), .f (.idxS (.t 40) (.t 41))⟩,
      ⟨(some 43), (some (38, false)), .f (.bin .gtr (.t 42) (.c (.int .u8 122)))⟩,
      ⟨(some 44), none, .f (.pick (.t 38) (.c (.bool true)) (.t 43))⟩,
      ⟨(some 45), none, .f (.mv (.t 44))⟩,
      ⟨(some 46), (some (45, true)), .f (.fadr 0 (.t 1))⟩,
      ⟨(some 47), (some (45, true)), .f (.ld (.t 46))⟩,
      ⟨(some 48), (some (45, true)), .f (.mv (.t 3))⟩,
      ⟨(some 49), (some (45, true)), .f (.idxS (.t 47) (.t 48))⟩,
      ⟨(some 50), (some (45, true)), .f (.bin .neq (.t 49) (.c (.int .u8 45)))⟩,
      ⟨(some 51), none, .f (.pick (.t 45) (.t 50) (.c (.bool false)))⟩])
    (.cond (.t 51)
     (.seq (.reg [
       ⟨(some 2), none, .f (.mv (.c (.bool false)))⟩])
     .ret)
     .skip)))
   (.reg [
     ⟨(some 31), none, .f (.mv (.t 3))⟩,
     ⟨(some 32), none, .f (.bin .add (.t 31) (.c (.int .i64 1)))⟩,
     ⟨(some 3), none, .f (.mv (.t 32))⟩]))))))
 (.seq (.seq (.reg [
   ⟨(some 4), none, .f (.mv (.c (.int .i64 0)))⟩])
 (.block 2 (.loop (.seq (.seq (.reg [
     ⟨(some 52), none, .f (.mv (.t 4))⟩,
     ⟨(some 53), none, .f (.fadr 1 (.t 1))⟩,
     ⟨(some 54), none, .f (.ld (.t 53))⟩,
     ⟨(some 55), none, .f (.lenS (.t 54))⟩,
     ⟨(some 56), none, .f (.bin .lss (.t 52) (.t 55))⟩])
   (.cond (.t 56)
    .skip
    (.exit 2)))
   (.seq (.block 3 (.seq (.reg [
      ⟨(some 59), none, .f (.fadr 1 (.t 1))⟩,
      ⟨(some 60), none, .f (.ld (.t 59))⟩,
      ⟨(some 61), none, .f (.mv (.t 4))⟩,
      ⟨(some 62), none, .f (.idxS (.t 60) (.t 61))⟩,
      ⟨(some 63), none, .f (.bin .lss (.t 62) (.c (.int .u8 32)))⟩,
      ⟨(some 64), none, .f (.mv (.t 63))⟩,
      ⟨(some 65), (some (64, false)), .f (.fadr 1 (.t 1))⟩,
      ⟨(some 66), (some (64, false)), .f (.ld (.t 65))⟩,
      ⟨(some 67), (some (64, false)), .f (.mv (.t 4))⟩,
      ⟨(some 68), (some (64, false)), .f (.idxS (.t 66) (.t 67))⟩,
      ⟨(some 69), (some (64, false)), .f (.bin .gtr (.t 68) (.c (.int .u8 126)))⟩,
      ⟨(some 70), none, .f (.pick (.t 64) (.c (.bool true)) (.t 69))⟩])
    (.cond (.t 70)
     (.seq (.reg [
       ⟨(some 2), none, .f (.mv (.c (.bool false)))⟩])
     .ret)
     .skip)))
   (.reg [
     ⟨(some 57), none, .f (.mv (.t 4))⟩,
     ⟨(some 58), none, .f (.bin .add (.t 57) (.c (.int .i64 1)))⟩,
     ⟨(some 4), none, .f (.mv (.t 58))⟩]))))))
 (.seq (.reg [
   ⟨(some 71), none, .f (.fadr 1 (.t 1))⟩,
   ⟨(some 72), none, .f (.ld (.t 71))⟩,
   ⟨(some 73), none, .f (.bin .eql (.t 72) (.c (.str [])))⟩,
   ⟨(some 74), none, .f (.mv (.t 73))⟩,
   ⟨(some 75), (some (74, false)), .f (.fadr 1 (.t 1))⟩,
   ⟨(some 76), (some (74, false)), .f (.ld (.t 75))⟩,
   ⟨(some 77), (some (74, false)), .f (.idxS (.t 76) (.c (.int .i64 0)))⟩,
   ⟨(some 78), (some (74, false)), .f (.bin .neq (.t 77) (.c (.int .u8 32)))⟩,
   ⟨(some 79), (some (74, false)), .f (.mv (.t 78))⟩,
   ⟨(some 80), (some (79, true)), .f (.fadr 1 (.t 1))⟩,
   ⟨(some 81), (some (79, true)), .f (.ld (.t 80))⟩,
   ⟨(some 82), (some (79, true)), .f (.fadr 1 (.t 1))⟩,
   ⟨(some 83), (some (79, true)), .f (.ld (.t 82))⟩,
   ⟨(some 84), (some (79, true)), .f (.lenS (.t 83))⟩,
   ⟨(some 85), (some (79, true)), .f (.bin .sub (.t 84) (.c (.int .i64 1)))⟩,
   ⟨(some 86), (some (79, true)), .f (.idxS (.t 81) (.t 85))⟩,
   ⟨(some 87), (some (79, true)), .f (.bin .neq (.t 86) (.c (.int .u8 32)))⟩,
   ⟨(some 88), (some (74, false)), .f (.pick (.t 79) (.t 87) (.c (.bool false)))⟩,
   ⟨(some 89), none, .f (.pick (.t 74) (.c (.bool true)) (.t 88))⟩,
   ⟨(some 2), none, .f (.mv (.t 89))⟩])
 .ret)))))
theorem ok114 : fnComp Tryz.prog 114 = some (90, c114, [(.mv (.t 2))]) := by kernel_rfl

/-- loop.example/g00003/spec.l01Copy -/
def c115 : CC :=
 (.seq (.reg [
   ⟨(some 2), none, .f (.mv (.c .nilslice))⟩])
 (.seq (.reg [
   ⟨(some 5), none, .x (.bslice 5 1 [(.int .u8 0)] 0 [])⟩,
   ⟨(some 3), none, .f (.mv (.t 5))⟩])
 (.seq (.seq (.reg [
   ⟨(some 4), none, .f (.mv (.c (.int .i64 0)))⟩])
 (.block 0 (.loop (.seq (.seq (.reg [
     ⟨(some 6), none, .f (.mv (.t 4))⟩,
     ⟨(some 7), none, .f (.mv (.t 0))⟩,
     ⟨(some 8), none, .f (.len (.t 7))⟩,
     ⟨(some 9), none, .f (.bin .lss (.t 6) (.t 8))⟩])
   (.cond (.t 9)
    .skip
    (.exit 0)))
   (.seq (.block 1 (.reg [
      ⟨(some 12), none, .f (.mv (.t 3))⟩,
      ⟨(some 13), none, .f (.mv (.t 0))⟩,
      ⟨(some 14), none, .f (.mv (.t 4))⟩,
      ⟨(some 15), none, .f (.iadr 1 (.t 13) (.t 14))⟩,
      ⟨(some 16), none, .f (.ld (.t 15))⟩,
      ⟨(some 17), none, .x (.bslice 5 1 [(.int .u8 0)] 1 [(0, (.t 16))])⟩,
      ⟨(some 18), none, .x (.app 5 1 1 (.t 12) (.t 17))⟩,
      ⟨(some 3), none, .f (.mv (.t 18))⟩]))
   (.reg [
     ⟨(some 10), none, .f (.mv (.t 4))⟩,
     ⟨(some 11), none, .f (.bin .add (.t 10) (.c (.int .i64 1)))⟩,
     ⟨(some 4), none, .f (.mv (.t 11))⟩]))))))
 (.seq (.reg [
   ⟨(some 19), none, .f (.mv (.t 3))⟩,
   ⟨(some 2), none, .f (.mv (.t 19))⟩])
 .ret))))
theorem ok115 : fnComp Tryz.prog 115 = some (20, c115, [(.mv (.t 2))]) := by kernel_rfl

/-- strings.IndexByte -/
def c116 : CC :=
 (.seq (.reg [
   ⟨(some 4), none, .f (.mv (.c (.int .i64 0)))⟩])
 (.seq (.reg [
   ⟨(some 5), none, .f (.mv (.t 0))⟩,
   ⟨(some 6), none, .f (.mv (.t 1))⟩,
   ⟨(some 7), none, .x (.call 148 [(.t 5), (.t 6)])⟩,
   ⟨(some 4), none, .f (.mv (.t 7))⟩])
 .ret))
theorem ok116 : fnComp Tryz.prog 116 = some (8, c116, [(.mv (.t 4))]) := by kernel_rfl

/-- slices.ContainsFunc[[]loop.example/g00003/impl.Field,loop.example/g00003/impl.Field] -/
def c117 : CC :=
 (.seq (.reg [
   ⟨(some 4), none, .f (.mv (.c (.bool false)))⟩])
 (.seq (.reg [
   ⟨(some 5), none, .f (.mv (.t 0))⟩,
   ⟨(some 6), none, .f (.mv (.t 1))⟩,
   ⟨(some 7), none, .x (.call 149 [(.t 5), (.t 6)])⟩,
   ⟨(some 8), none, .f (.bin .geq (.t 7) (.c (.int .i64 0)))⟩,
   ⟨(some 4), none, .f (.mv (.t 8))⟩])
 .ret))
theorem ok117 : fnComp Tryz.prog 117 = some (9, c117, [(.mv (.t 4))]) := by kernel_rfl

/-- loop.example/g00003/impl.okRest$1 -/
def c118 : CC :=
 (.seq (.reg [
   ⟨(some 1), none, .x (.box 106 2 (.t 0))⟩,
   ⟨(some 2), none, .f (.mv (.c (.bool false)))⟩])
 (.seq (.reg [
   ⟨(some 3), none, .f (.ldA 2 (.t 1))⟩,
   ⟨(some 4), none, .x (.call 119 [(.t 3)])⟩,
   ⟨(some 5), none, .f (.un .not (.t 4))⟩,
   ⟨(some 2), none, .f (.mv (.t 5))⟩])
 .ret))
theorem ok118 : fnComp Tryz.prog 118 = some (6, c118, [(.mv (.t 2))]) := by kernel_rfl

/-- loop.example/g00003/impl.okField -/
def c119 : CC :=
 (.seq (.reg [
   ⟨(some 1), none, .x (.box 106 2 (.t 0))⟩,
   ⟨(some 2), none, .f (.mv (.c (.bool false)))⟩])
 (.seq (.seq (.reg [
   ⟨(some 7), none, .f (.fadr 0 (.t 1))⟩,
   ⟨(some 8), none, .f (.ld (.t 7))⟩,
   ⟨(some 9), none, .f (.lenS (.t 8))⟩,
   ⟨(some 10), none, .f (.bin .lss (.t 9) (.c (.int .i64 1)))⟩,
   ⟨(some 11), none, .f (.mv (.t 10))⟩,
   ⟨(some 12), (some (11, false)), .f (.fadr 0 (.t 1))⟩,
   ⟨(some 13), (some (11, false)), .f (.ld (.t 12))⟩,
   ⟨(some 14), (some (11, false)), .f (.lenS (.t 13))⟩,
   ⟨(some 15), (some (11, false)), .f (.bin .gtr (.t 14) (.c (.int .i64 40)))⟩,
   ⟨(some 16), none, .f (.pick (.t 11) (.c (.bool true)) (.t 15))⟩,
   ⟨(some 17), none, .f (.mv (.t 16))⟩,
   ⟨(some 18), (some (17, false)), .f (.fadr 0 (.t 1))⟩,
   ⟨(some 19), (some (17, false)), .f (.ld (.t 18))⟩,
   ⟨(some 20), (some (17, false)), .f (.bin .eql (.t 19) (.c (.str [108, 101, 110, 103, 116, 104])))⟩,
   ⟨(some 21), none, .f (.pick (.t 17) (.c (.bool true)) (.t 20))⟩,
   ⟨(some 22), none, .f (.mv (.t 21))⟩,
   ⟨(some 23), (some (22, false)), .f (.fadr 1 (.t 1))⟩,
   ⟨(some 24), (some (22, false)), .f (.ld (.t 23))⟩,
   ⟨(some 25), (some (22, false)), .f (.lenS (.t 24))⟩,
   ⟨(some 26), (some (22, false)), .f (.bin .gtr (.t 25) (.c (.int .i64 200)))⟩,
   ⟨(some 27), none, .f (.pick (.t 22) (.c (.bool true)) (.t 26))⟩])
 (.cond (.t 27)
  (.seq (.reg [
    ⟨(some 2), none, .f (.mv (.c (.bool false)))⟩])
  .ret)
  .skip))
 (.seq (.seq (.reg [
   ⟨(some 28), none, .f (.fadr 0 (.t 1))⟩,
   ⟨(some 29), none, .f (.ld (.t 28))⟩,
   ⟨(some 30), none, .x (.s2b 5 (.t 29))⟩,
   ⟨(some 31), none, .f (.len (.t 30))⟩,
   ⟨(some 32), none, .f (.mv (.c (.int .i64 0)))⟩])
 (.block 0 (.loop (.seq (.reg [
     ⟨(some 33), none, .f (.bin .lss (.t 32) (.t 31))⟩])
   (.seq (.cond (.t 33)
    .skip
    (.exit 0))
   (.seq (.block 1 (.seq (.reg [
      ⟨(some 34), none, .f (.iadr 1 (.t 30) (.t 32))⟩,
      ⟨(some 35), none, .f (.ld (.t 34))⟩,
      ⟨(some 4), none, .f (.mv (.t 35))⟩])
    (.seq (.reg [
      ⟨(some 36), none, .f (.mv (.t 4))⟩,
      ⟨(some 37), none, .f (.bin .geq (.t 36) (.c (.int .u8 97)))⟩,
      ⟨(some 38), none, .f (.mv (.t 37))⟩,
      ⟨(some 39), (some (38, true)), .f (.mv (.t 4))⟩,
      ⟨(some 40), (some (38, true)), .f (.bin .leq (.t 39) (.c (.int .u8 122)))⟩,
      ⟨(some 41), none, .f (.pick (.t 38) (.t 40) (.c (.bool false)))⟩,
      ⟨(some 42), none, .f (.mv (.t 41))⟩,
      ⟨(some 43), (some (42, false)), .f (.mv (.t 4))⟩,
      ⟨(some 44), (some (42, false)), .f (.bin .eql (.t 43) (.c (.int .u8 45)))⟩,
      ⟨(some 45), none, .f (.pick (.t 42) (.c (.bool true)) (.t 44))⟩,
      ⟨(some 46), none, .f (.un .not (.t 45))⟩])
    (.cond (.t 46)
     (.seq (.reg [
       ⟨(some 2), none, .f (.mv (.c (.bool false)))⟩])
     .ret)
     .skip))))
   (.reg [
     ⟨(some 47), none, .f (.bin .add (.t 32) (.c (.int .i64 1)))⟩,
     ⟨(some 32), none, .f (.mv (.t 47))⟩])))))))
 (.seq (.seq (.reg [
   ⟨(some 48), none, .f (.fadr 1 (.t 1))⟩,
   ⟨(some 49), none, .f (.ld (.t 48))⟩,
   ⟨(some 50), none, .x (.s2b 5 (.t 49))⟩,
   ⟨(some 51), none, .f (.len (.t 50))⟩,
   ⟨(some 52), none, .f (.mv (.c (.int .i64 0)))⟩])
 (.block 2 (.loop (.seq (.reg [
     ⟨(some 53), none, .f (.bin .lss (.t 52) (.t 51))⟩])
   (.seq (.cond (.t 53)
    .skip
    (.exit 2))
   (.seq (.block 3 (.seq (.reg [
      ⟨(some 54), none, .f (.iadr 1 (.t 50) (.t 52))⟩,
      ⟨(some 55), none, .f (.ld (.t 54))⟩,
      ⟨(some 6), none, .f (.mv (.t 55))⟩])
    (.seq (.reg [
      ⟨(some 56), none, .f (.mv (.t 6))⟩,
      ⟨(some 57), none, .f (.bin .lss (.t 56) (.c (.int .u8 32)))⟩,
      ⟨(some 58), none, .f (.mv (.t 57))⟩,
      ⟨(some 59), (some (58, false)), .f (.mv (.t 6))⟩,
      ⟨(some 60), (some (58, false)), .f (.bin .gtr (.t 59) (.c (.int .u8 126)))⟩,
      ⟨(some 61), none, .f (.pick (.t 58) (.c (.bool true)) (.t 60))⟩])
    (.cond (.t 61)
     (.seq (.reg [
       ⟨(some 2), none, .f (.mv (.c (.bool false)))⟩])
     .ret)
     .skip))))
   (.reg [
     ⟨(some 62), none, .f (.bin .add (.t 52) (.c (.int .i64 1)))⟩,
     ⟨(some 52), none, .f (.mv (.t 62))⟩])))))))
 (.seq (.dreg [
   ⟨(some 63), none, .f (.fadr 1 (.t 1))⟩,
   ⟨(some 64), none, .f (.ld (.t 63))⟩,
   ⟨(some 65), none, .f (.fadr 1 (.t 1))⟩,
   ⟨(some 66), none, .f (.ld (.t 65))⟩,
   ⟨(some 67), none, .x (.call 150 [(.t 66), (.c (.str [32]))])⟩,
   ⟨(some 68), none, .f (.bin .eql (.t 64) (.t 67))⟩,
   ⟨(some 2), none, .f (.mv (.t 68))⟩]
   [false, false, false, false, true, false, false] [[], [0], [], [2], [3, 2], [1, 0, 4, 3, 2], [5, 1, 0, 4, 3, 2]] [0, 1, 2, 3, 4, 5, 6])
 .ret)))))
theorem ok119 : fnComp Tryz.prog 119 = some (69, c119, [(.mv (.t 2))]) := by kernel_rfl

/-- strings.Split -/
def c121 : CC :=
 (.seq (.reg [
   ⟨(some 4), none, .f (.mv (.c .nilslice))⟩])
 (.seq (.reg [
   ⟨(some 5), none, .f (.mv (.t 0))⟩,
   ⟨(some 6), none, .f (.mv (.t 1))⟩,
   ⟨(some 7), none, .x (.call 156 [(.t 5), (.t 6), (.c (.int .i64 0)), (.c (.int .i64 (-1)))])⟩,
   ⟨(some 4), none, .f (.mv (.t 7))⟩])
 .ret))
theorem ok121 : fnComp Tryz.prog 121 = some (8, c121, [(.mv (.t 4))]) := by kernel_rfl

/-- loop.example/g00003/impl.dup -/
def c122 : CC :=
 (.seq (.reg [
   ⟨(some 2), none, .f (.mv (.c .nilslice))⟩])
 (.seq (.reg [
   ⟨(some 3), none, .f (.mv (.t 0))⟩,
   ⟨(some 4), none, .x (.app 5 1 1 (.c .nilslice) (.t 3))⟩,
   ⟨(some 2), none, .f (.mv (.t 4))⟩])
 .ret))
theorem ok122 : fnComp Tryz.prog 122 = some (5, c122, [(.mv (.t 2))]) := by kernel_rfl

/-- internal/stringslite.CutPrefix -/
def c125 : CC :=
 (.seq (.reg [
   ⟨(some 4), none, .f (.mv (.c (.str [])))⟩,
   ⟨(some 5), none, .f (.mv (.c (.bool false)))⟩])
 (.seq (.seq (.reg [
   ⟨(some 6), none, .f (.mv (.t 0))⟩,
   ⟨(some 7), none, .f (.mv (.t 1))⟩,
   ⟨(some 8), none, .x (.call 158 [(.t 6), (.t 7)])⟩,
   ⟨(some 9), none, .f (.un .not (.t 8))⟩])
 (.cond (.t 9)
  (.seq (.reg [
    ⟨(some 10), none, .f (.mv (.t 0))⟩,
    ⟨(some 4), none, .f (.mv (.t 10))⟩,
    ⟨(some 5), none, .f (.mv (.c (.bool false)))⟩])
  .ret)
  .skip))
 (.seq (.reg [
   ⟨(some 11), none, .f (.mv (.t 0))⟩,
   ⟨(some 12), none, .f (.mv (.t 1))⟩,
   ⟨(some 13), none, .f (.lenS (.t 12))⟩,
   ⟨(some 14), none, .f (.slcS (.t 11) (some (.t 13)) none)⟩,
   ⟨(some 4), none, .f (.mv (.t 14))⟩,
   ⟨(some 5), none, .f (.mv (.c (.bool true)))⟩])
 .ret)))
theorem ok125 : fnComp Tryz.prog 125 = some (15, c125, [(.mv (.t 4)), (.mv (.t 5))]) := by kernel_rfl

/-- internal/stringslite.IndexByte -/
def c148 : CC :=
 (.seq (.reg [
   ⟨(some 4), none, .f (.mv (.c (.int .i64 0)))⟩])
 (.seq (.reg [
   ⟨(some 5), none, .f (.mv (.t 0))⟩,
   ⟨(some 6), none, .f (.mv (.t 1))⟩,
   ⟨(some 7), none, .x (.call 174 [(.t 5), (.t 6)])⟩,
   ⟨(some 4), none, .f (.mv (.t 7))⟩])
 .ret))
theorem ok148 : fnComp Tryz.prog 148 = some (8, c148, [(.mv (.t 4))]) := by kernel_rfl

/-- slices.IndexFunc[[]loop.example/g00003/impl.Field,loop.example/g00003/impl.Field] -/
def c149 : CC :=
 (.seq (.reg [
   ⟨(some 4), none, .f (.mv (.c (.int .i64 0)))⟩])
 (.seq (.seq (.reg [
   ⟨(some 6), none, .f (.mv (.t 0))⟩,
   ⟨(some 7), none, .f (.len (.t 6))⟩,
   ⟨(some 8), none, .f (.mv (.c (.int .i64 0)))⟩])
 (.block 0 (.loop (.seq (.reg [
     ⟨(some 9), none, .f (.bin .lss (.t 8) (.t 7))⟩])
   (.seq (.cond (.t 9)
    .skip
    (.exit 0))
   (.seq (.block 1 (.seq (.reg [
      ⟨(some 10), none, .f (.mv (.t 8))⟩,
      ⟨(some 5), none, .f (.mv (.t 10))⟩])
    (.seq (.reg [
      ⟨(some 11), none, .f (.mv (.t 1))⟩,
      ⟨(some 12), none, .f (.mv (.t 0))⟩,
      ⟨(some 13), none, .f (.mv (.t 5))⟩,
      ⟨(some 14), none, .f (.iadr 2 (.t 12) (.t 13))⟩,
      ⟨(some 15), none, .f (.ldA 2 (.t 14))⟩,
      ⟨(some 16), none, .x (.callv (.t 11) [(.t 15)])⟩])
    (.cond (.t 16)
     (.seq (.reg [
       ⟨(some 17), none, .f (.mv (.t 5))⟩,
       ⟨(some 4), none, .f (.mv (.t 17))⟩])
     .ret)
     .skip))))
   (.reg [
     ⟨(some 18), none, .f (.bin .add (.t 8) (.c (.int .i64 1)))⟩,
     ⟨(some 8), none, .f (.mv (.t 18))⟩])))))))
 (.seq (.reg [
   ⟨(some 4), none, .f (.mv (.c (.int .i64 (-1))))⟩])
 .ret)))
theorem ok149 : fnComp Tryz.prog 149 = some (19, c149, [(.mv (.t 4))]) := by kernel_rfl

/-- strings.genSplit -/
def c156 : CC :=
 (.seq (.reg [
   ⟨(some 8), none, .f (.mv (.c .nilslice))⟩])
 (.seq (.seq (.reg [
   ⟨(some 12), none, .f (.mv (.t 3))⟩,
   ⟨(some 13), none, .f (.bin .eql (.t 12) (.c (.int .i64 0)))⟩])
 (.cond (.t 13)
  (.seq (.reg [
    ⟨(some 8), none, .f (.mv (.c .nilslice))⟩])
  .ret)
  .skip))
 (.seq (.seq (.reg [
   ⟨(some 14), none, .f (.mv (.t 1))⟩,
   ⟨(some 15), none, .f (.bin .eql (.t 14) (.c (.str [])))⟩])
 (.cond (.t 15)
  (.seq (.reg [
    ⟨(some 16), none, .f (.mv (.t 0))⟩,
    ⟨(some 17), none, .f (.mv (.t 3))⟩,
    ⟨(some 18), none, .x (.call 184 [(.t 16), (.t 17)])⟩,
    ⟨(some 8), none, .f (.mv (.t 18))⟩])
  .ret)
  .skip))
 (.seq (.seq (.reg [
   ⟨(some 19), none, .f (.mv (.t 3))⟩,
   ⟨(some 20), none, .f (.bin .lss (.t 19) (.c (.int .i64 0)))⟩])
 (.cond (.t 20)
  (.reg [
    ⟨(some 21), none, .f (.mv (.t 0))⟩,
    ⟨(some 22), none, .f (.mv (.t 1))⟩,
    ⟨(some 23), none, .x (.call 185 [(.t 21), (.t 22)])⟩,
    ⟨(some 24), none, .f (.bin .add (.t 23) (.c (.int .i64 1)))⟩,
    ⟨(some 3), none, .f (.mv (.t 24))⟩])
  .skip))
 (.seq (.reg [
   ⟨(some 25), none, .f (.mv (.t 3))⟩,
   ⟨(some 26), none, .f (.mv (.t 0))⟩,
   ⟨(some 27), none, .f (.lenS (.t 26))⟩,
   ⟨(some 28), none, .f (.bin .add (.t 27) (.c (.int .i64 1)))⟩,
   ⟨(some 29), none, .f (.mm false (.t 25) (.t 28))⟩,
   ⟨(some 3), none, .f (.mv (.t 29))⟩])
 (.seq (.reg [
   ⟨(some 30), none, .f (.mv (.t 3))⟩,
   ⟨(some 31), none, .x (.mks 9 1 16 [(.str [])] (.t 30) (.t 30))⟩,
   ⟨(some 9), none, .f (.mv (.t 31))⟩])
 (.seq (.reg [
   ⟨(some 32), none, .f (.mv (.t 3))⟩,
   ⟨(some 33), none, .f (.bin .sub (.t 32) (.c (.int .i64 1)))⟩,
   ⟨(some 3), none, .f (.mv (.t 33))⟩])
 (.seq (.reg [
   ⟨(some 10), none, .f (.mv (.c (.int .i64 0)))⟩])
 (.seq (.block 0 (.loop (.seq (.seq (.reg [
     ⟨(some 34), none, .f (.mv (.t 10))⟩,
     ⟨(some 35), none, .f (.mv (.t 3))⟩,
     ⟨(some 36), none, .f (.bin .lss (.t 34) (.t 35))⟩])
   (.cond (.t 36)
    .skip
    (.exit 0)))
   (.block 1 (.seq (.reg [
      ⟨(some 37), none, .f (.mv (.t 0))⟩,
      ⟨(some 38), none, .f (.mv (.t 1))⟩,
      ⟨(some 39), none, .x (.call 186 [(.t 37), (.t 38)])⟩,
      ⟨(some 11), none, .f (.mv (.t 39))⟩])
    (.seq (.seq (.reg [
      ⟨(some 40), none, .f (.mv (.t 11))⟩,
      ⟨(some 41), none, .f (.bin .lss (.t 40) (.c (.int .i64 0)))⟩])
    (.cond (.t 41)
     (.exit 0)
     .skip))
    (.seq (.reg [
      ⟨(some 42), none, .f (.mv (.t 9))⟩,
      ⟨(some 43), none, .f (.mv (.t 10))⟩,
      ⟨(some 44), none, .f (.mv (.t 0))⟩,
      ⟨(some 45), none, .f (.mv (.t 11))⟩,
      ⟨(some 46), none, .f (.mv (.t 2))⟩,
      ⟨(some 47), none, .f (.bin .add (.t 45) (.t 46))⟩,
      ⟨(some 48), none, .f (.slcS (.t 44) none (some (.t 47)))⟩,
      ⟨(some 49), none, .f (.iadr 1 (.t 42) (.t 43))⟩,
      ⟨none, none, .x (.st 1 (.t 49) (.t 48))⟩])
    (.seq (.reg [
      ⟨(some 50), none, .f (.mv (.t 0))⟩,
      ⟨(some 51), none, .f (.mv (.t 11))⟩,
      ⟨(some 52), none, .f (.mv (.t 1))⟩,
      ⟨(some 53), none, .f (.lenS (.t 52))⟩,
      ⟨(some 54), none, .f (.bin .add (.t 51) (.t 53))⟩,
      ⟨(some 55), none, .f (.slcS (.t 50) (some (.t 54)) none)⟩,
      ⟨(some 0), none, .f (.mv (.t 55))⟩])
    (.reg [
      ⟨(some 56), none, .f (.mv (.t 10))⟩,
      ⟨(some 57), none, .f (.bin .add (.t 56) (.c (.int .i64 1)))⟩,
      ⟨(some 10), none, .f (.mv (.t 57))⟩])))))))))
 (.seq (.reg [
   ⟨(some 58), none, .f (.mv (.t 9))⟩,
   ⟨(some 59), none, .f (.mv (.t 10))⟩,
   ⟨(some 60), none, .f (.mv (.t 0))⟩,
   ⟨(some 61), none, .f (.iadr 1 (.t 58) (.t 59))⟩,
   ⟨none, none, .x (.st 1 (.t 61) (.t 60))⟩])
 (.seq (.reg [
   ⟨(some 62), none, .f (.mv (.t 9))⟩,
   ⟨(some 63), none, .f (.mv (.t 10))⟩,
   ⟨(some 64), none, .f (.bin .add (.t 63) (.c (.int .i64 1)))⟩,
   ⟨(some 65), none, .f (.slc 1 (.t 62) none (some (.t 64)) none)⟩,
   ⟨(some 8), none, .f (.mv (.t 65))⟩])
 .ret)))))))))))
theorem ok156 : fnComp Tryz.prog 156 = some (66, c156, [(.mv (.t 8))]) := by kernel_rfl

/-- internal/stringslite.Index -/
def c157 : CC :=
 (.seq (.reg [
   ⟨(some 4), none, .f (.mv (.c (.int .i64 0)))⟩])
 (.seq (.reg [
   ⟨(some 14), none, .f (.mv (.t 1))⟩,
   ⟨(some 15), none, .f (.lenS (.t 14))⟩,
   ⟨(some 5), none, .f (.mv (.t 15))⟩])
 (.seq (.block 0 (.seq (.reg [
    ⟨(some 17), none, .f (.mv (.t 5))⟩,
    ⟨(some 18), none, .f (.bin .eql (.t 17) (.c (.int .i64 0)))⟩,
    ⟨(some 19), none, .f (.mv (.t 18))⟩,
    ⟨(some 20), (some (19, false)), .f (.mv (.t 1))⟩,
    ⟨(some 21), (some (19, false)), .f (.mv (.t 0))⟩,
    ⟨(some 22), (some (19, false)), .f (.bin .eql (.t 20) (.t 21))⟩,
    ⟨(some 23), none, .f (.pick (.t 19) (.c (.bool true)) (.t 22))⟩,
    ⟨(some 16), none, .f (.mv (.t 23))⟩])
  (.cond (.t 16)
   (.seq (.reg [
     ⟨(some 4), none, .f (.mv (.c (.int .i64 0)))⟩])
   .ret)
   (.seq (.reg [
     ⟨(some 25), none, .f (.mv (.t 5))⟩,
     ⟨(some 26), none, .f (.bin .eql (.t 25) (.c (.int .i64 1)))⟩,
     ⟨(some 24), none, .f (.mv (.t 26))⟩])
   (.cond (.t 24)
    (.seq (.reg [
      ⟨(some 27), none, .f (.mv (.t 0))⟩,
      ⟨(some 28), none, .f (.mv (.t 1))⟩,
      ⟨(some 29), none, .f (.idxS (.t 28) (.c (.int .i64 0)))⟩,
      ⟨(some 30), none, .x (.call 148 [(.t 27), (.t 29)])⟩,
      ⟨(some 4), none, .f (.mv (.t 30))⟩])
    .ret)
    (.seq (.reg [
      ⟨(some 32), none, .f (.mv (.t 5))⟩,
      ⟨(some 33), none, .f (.mv (.t 0))⟩,
      ⟨(some 34), none, .f (.lenS (.t 33))⟩,
      ⟨(some 35), none, .f (.bin .geq (.t 32) (.t 34))⟩,
      ⟨(some 31), none, .f (.mv (.t 35))⟩])
    (.cond (.t 31)
     (.seq (.reg [
       ⟨(some 4), none, .f (.mv (.c (.int .i64 (-1))))⟩])
     .ret)
     (.seq (.reg [
       ⟨(some 37), none, .f (.mv (.t 5))⟩,
       ⟨(some 38), none, .x (.ux .bad [])⟩,
       ⟨(some 39), none, .f (.bin .leq (.t 37) (.t 38))⟩,
       ⟨(some 40), none, .f (.mv (.t 39))⟩,
       ⟨(some 41), (some (40, true)), .f (.mv (.t 0))⟩,
       ⟨(some 42), (some (40, true)), .f (.lenS (.t 41))⟩,
       ⟨(some 43), (some (40, true)), .f (.bin .leq (.t 42) (.c (.int .i64 64)))⟩,
       ⟨(some 44), none, .f (.pick (.t 40) (.t 43) (.c (.bool false)))⟩,
       ⟨(some 36), none, .f (.mv (.t 44))⟩])
     (.cond (.t 36)
      (.seq (.reg [
        ⟨(some 45), none, .f (.mv (.t 0))⟩,
        ⟨(some 46), none, .f (.mv (.t 1))⟩,
        ⟨(some 47), none, .x (.call 187 [(.t 45), (.t 46)])⟩,
        ⟨(some 4), none, .f (.mv (.t 47))⟩])
      .ret)
      .skip)))))))))
 (.seq (.reg [
   ⟨(some 48), none, .f (.mv (.t 1))⟩,
   ⟨(some 49), none, .f (.idxS (.t 48) (.c (.int .i64 0)))⟩,
   ⟨(some 6), none, .f (.mv (.t 49))⟩])
 (.seq (.reg [
   ⟨(some 50), none, .f (.mv (.t 1))⟩,
   ⟨(some 51), none, .f (.idxS (.t 50) (.c (.int .i64 1)))⟩,
   ⟨(some 7), none, .f (.mv (.t 51))⟩])
 (.seq (.reg [
   ⟨(some 8), none, .f (.mv (.c (.int .i64 0)))⟩])
 (.seq (.reg [
   ⟨(some 52), none, .f (.mv (.t 0))⟩,
   ⟨(some 53), none, .f (.lenS (.t 52))⟩,
   ⟨(some 54), none, .f (.mv (.t 5))⟩,
   ⟨(some 55), none, .f (.bin .sub (.t 53) (.t 54))⟩,
   ⟨(some 56), none, .f (.bin .add (.t 55) (.c (.int .i64 1)))⟩,
   ⟨(some 9), none, .f (.mv (.t 56))⟩])
 (.seq (.reg [
   ⟨(some 10), none, .f (.mv (.c (.int .i64 0)))⟩])
 (.seq (.block 1 (.loop (.seq (.seq (.reg [
     ⟨(some 57), none, .f (.mv (.t 8))⟩,
     ⟨(some 58), none, .f (.mv (.t 9))⟩,
     ⟨(some 59), none, .f (.bin .lss (.t 57) (.t 58))⟩])
   (.cond (.t 59)
    .skip
    (.exit 1)))
   (.block 2 (.seq (.seq (.reg [
      ⟨(some 60), none, .f (.mv (.t 0))⟩,
      ⟨(some 61), none, .f (.mv (.t 8))⟩,
      ⟨(some 62), none, .f (.idxS (.t 60) (.t 61))⟩,
      ⟨(some 63), none, .f (.mv (.t 6))⟩,
      ⟨(some 64), none, .f (.bin .neq (.t 62) (.t 63))⟩])
    (.cond (.t 64)
     (.seq (.reg [
       ⟨(some 65), none, .f (.mv (.t 0))⟩,
       ⟨(some 66), none, .f (.mv (.t 8))⟩,
       ⟨(some 67), none, .f (.bin .add (.t 66) (.c (.int .i64 1)))⟩,
       ⟨(some 68), none, .f (.mv (.t 9))⟩,
       ⟨(some 69), none, .f (.slcS (.t 65) (some (.t 67)) (some (.t 68)))⟩,
       ⟨(some 70), none, .f (.mv (.t 6))⟩,
       ⟨(some 71), none, .x (.call 148 [(.t 69), (.t 70)])⟩,
       ⟨(some 11), none, .f (.mv (.t 71))⟩])
     (.seq (.seq (.reg [
       ⟨(some 72), none, .f (.mv (.t 11))⟩,
       ⟨(some 73), none, .f (.bin .lss (.t 72) (.c (.int .i64 0)))⟩])
     (.cond (.t 73)
      (.seq (.reg [
        ⟨(some 4), none, .f (.mv (.c (.int .i64 (-1))))⟩])
      .ret)
      .skip))
     (.reg [
       ⟨(some 74), none, .f (.mv (.t 8))⟩,
       ⟨(some 75), none, .f (.mv (.t 11))⟩,
       ⟨(some 76), none, .f (.bin .add (.t 75) (.c (.int .i64 1)))⟩,
       ⟨(some 77), none, .f (.bin .add (.t 74) (.t 76))⟩,
       ⟨(some 8), none, .f (.mv (.t 77))⟩])))
     .skip))
    (.seq (.seq (.reg [
      ⟨(some 78), none, .f (.mv (.t 0))⟩,
      ⟨(some 79), none, .f (.mv (.t 8))⟩,
      ⟨(some 80), none, .f (.bin .add (.t 79) (.c (.int .i64 1)))⟩,
      ⟨(some 81), none, .f (.idxS (.t 78) (.t 80))⟩,
      ⟨(some 82), none, .f (.mv (.t 7))⟩,
      ⟨(some 83), none, .f (.bin .eql (.t 81) (.t 82))⟩,
      ⟨(some 84), none, .f (.mv (.t 83))⟩,
      ⟨(some 85), (some (84, true)), .f (.mv (.t 0))⟩,
      ⟨(some 86), (some (84, true)), .f (.mv (.t 8))⟩,
      ⟨(some 87), (some (84, true)), .f (.mv (.t 8))⟩,
      ⟨(some 88), (some (84, true)), .f (.mv (.t 5))⟩,
      ⟨(some 89), (some (84, true)), .f (.bin .add (.t 87) (.t 88))⟩,
      ⟨(some 90), (some (84, true)), .f (.slcS (.t 85) (some (.t 86)) (some (.t 89)))⟩,
      ⟨(some 91), (some (84, true)), .f (.mv (.t 1))⟩,
      ⟨(some 92), (some (84, true)), .f (.bin .eql (.t 90) (.t 91))⟩,
      ⟨(some 93), none, .f (.pick (.t 84) (.t 92) (.c (.bool false)))⟩])
    (.cond (.t 93)
     (.seq (.reg [
       ⟨(some 94), none, .f (.mv (.t 8))⟩,
       ⟨(some 4), none, .f (.mv (.t 94))⟩])
     .ret)
     .skip))
    (.seq (.reg [
      ⟨(some 95), none, .f (.mv (.t 8))⟩,
      ⟨(some 96), none, .f (.bin .add (.t 95) (.c (.int .i64 1)))⟩,
      ⟨(some 8), none, .f (.mv (.t 96))⟩])
    (.seq (.reg [
      ⟨(some 97), none, .f (.mv (.t 10))⟩,
      ⟨(some 98), none, .f (.bin .add (.t 97) (.c (.int .i64 1)))⟩,
      ⟨(some 10), none, .f (.mv (.t 98))⟩])
    (.seq (.reg [
      ⟨(some 99), none, .f (.mv (.t 5))⟩,
      ⟨(some 100), none, .x (.ux .bad [])⟩,
      ⟨(some 101), none, .f (.bin .leq (.t 99) (.t 100))⟩,
      ⟨(some 102), none, .f (.mv (.t 101))⟩,
      ⟨(some 103), (some (102, true)), .f (.mv (.t 10))⟩,
      ⟨(some 104), (some (102, true)), .f (.mv (.t 8))⟩,
      ⟨(some 105), (some (102, true)), .x (.call 154 [(.t 104)])⟩,
      ⟨(some 106), (some (102, true)), .f (.bin .gtr (.t 103) (.t 105))⟩,
      ⟨(some 107), none, .f (.pick (.t 102) (.t 106) (.c (.bool false)))⟩])
    (.cond (.t 107)
     (.seq (.reg [
       ⟨(some 108), none, .f (.mv (.t 0))⟩,
       ⟨(some 109), none, .f (.mv (.t 8))⟩,
       ⟨(some 110), none, .f (.slcS (.t 108) (some (.t 109)) none)⟩,
       ⟨(some 111), none, .f (.mv (.t 1))⟩,
       ⟨(some 112), none, .x (.call 187 [(.t 110), (.t 111)])⟩,
       ⟨(some 12), none, .f (.mv (.t 112))⟩])
     (.seq (.seq (.reg [
       ⟨(some 113), none, .f (.mv (.t 12))⟩,
       ⟨(some 114), none, .f (.bin .geq (.t 113) (.c (.int .i64 0)))⟩])
     (.cond (.t 114)
      (.seq (.reg [
        ⟨(some 115), none, .f (.mv (.t 12))⟩,
        ⟨(some 116), none, .f (.mv (.t 8))⟩,
        ⟨(some 117), none, .f (.bin .add (.t 115) (.t 116))⟩,
        ⟨(some 4), none, .f (.mv (.t 117))⟩])
      .ret)
      .skip))
     (.seq (.reg [
       ⟨(some 4), none, .f (.mv (.c (.int .i64 (-1))))⟩])
     .ret)))
     (.seq (.reg [
       ⟨(some 118), none, .f (.mv (.t 5))⟩,
       ⟨(some 119), none, .x (.ux .bad [])⟩,
       ⟨(some 120), none, .f (.bin .gtr (.t 118) (.t 119))⟩,
       ⟨(some 121), none, .f (.mv (.t 120))⟩,
       ⟨(some 122), (some (121, true)), .f (.mv (.t 10))⟩,
       ⟨(some 123), (some (121, true)), .f (.mv (.t 8))⟩,
       ⟨(some 124), (some (121, true)), .f (.bin .shr (.t 123) (.c (.int .u64 4)))⟩,
       ⟨(some 125), (some (121, true)), .f (.bin .add (.c (.int .i64 4)) (.t 124))⟩,
       ⟨(some 126), (some (121, true)), .f (.bin .geq (.t 122) (.t 125))⟩,
       ⟨(some 127), none, .f (.pick (.t 121) (.t 126) (.c (.bool false)))⟩,
       ⟨(some 128), none, .f (.mv (.t 127))⟩,
       ⟨(some 129), (some (128, true)), .f (.mv (.t 8))⟩,
       ⟨(some 130), (some (128, true)), .f (.mv (.t 9))⟩,
       ⟨(some 131), (some (128, true)), .f (.bin .lss (.t 129) (.t 130))⟩,
       ⟨(some 132), none, .f (.pick (.t 128) (.t 131) (.c (.bool false)))⟩])
     (.cond (.t 132)
      (.seq (.reg [
        ⟨(some 133), none, .f (.mv (.t 0))⟩,
        ⟨(some 134), none, .f (.mv (.t 8))⟩,
        ⟨(some 135), none, .f (.slcS (.t 133) (some (.t 134)) none)⟩,
        ⟨(some 136), none, .f (.mv (.t 1))⟩,
        ⟨(some 137), none, .x (.call 188 [(.t 135), (.t 136)])⟩,
        ⟨(some 13), none, .f (.mv (.t 137))⟩])
      (.seq (.seq (.reg [
        ⟨(some 138), none, .f (.mv (.t 13))⟩,
        ⟨(some 139), none, .f (.bin .lss (.t 138) (.c (.int .i64 0)))⟩])
      (.cond (.t 139)
       (.seq (.reg [
         ⟨(some 4), none, .f (.mv (.c (.int .i64 (-1))))⟩])
       .ret)
       .skip))
      (.seq (.reg [
        ⟨(some 140), none, .f (.mv (.t 8))⟩,
        ⟨(some 141), none, .f (.mv (.t 13))⟩,
        ⟨(some 142), none, .f (.bin .add (.t 140) (.t 141))⟩,
        ⟨(some 4), none, .f (.mv (.t 142))⟩])
      .ret)))
      .skip))))))))))))
 (.seq (.reg [
   ⟨(some 4), none, .f (.mv (.c (.int .i64 (-1))))⟩])
 .ret))))))))))
theorem ok157 : fnComp Tryz.prog 157 = some (143, c157, [(.mv (.t 4))]) := by kernel_rfl

/-- internal/stringslite.HasPrefix -/
def c158 : CC :=
 (.seq (.reg [
   ⟨(some 4), none, .f (.mv (.c (.bool false)))⟩])
 (.seq (.reg [
   ⟨(some 5), none, .f (.mv (.t 0))⟩,
   ⟨(some 6), none, .f (.lenS (.t 5))⟩,
   ⟨(some 7), none, .f (.mv (.t 1))⟩,
   ⟨(some 8), none, .f (.lenS (.t 7))⟩,
   ⟨(some 9), none, .f (.bin .geq (.t 6) (.t 8))⟩,
   ⟨(some 10), none, .f (.mv (.t 9))⟩,
   ⟨(some 11), (some (10, true)), .f (.mv (.t 0))⟩,
   ⟨(some 12), (some (10, true)), .f (.mv (.t 1))⟩,
   ⟨(some 13), (some (10, true)), .f (.lenS (.t 12))⟩,
   ⟨(some 14), (some (10, true)), .f (.slcS (.t 11) none (some (.t 13)))⟩,
   ⟨(some 15), (some (10, true)), .f (.mv (.t 1))⟩,
   ⟨(some 16), (some (10, true)), .f (.bin .eql (.t 14) (.t 15))⟩,
   ⟨(some 17), none, .f (.pick (.t 10) (.t 16) (.c (.bool false)))⟩,
   ⟨(some 4), none, .f (.mv (.t 17))⟩])
 .ret))
theorem ok158 : fnComp Tryz.prog 158 = some (18, c158, [(.mv (.t 4))]) := by kernel_rfl

/-- strings.Count -/
def c185 : CC :=
 (.seq (.reg [
   ⟨(some 4), none, .f (.mv (.c (.int .i64 0)))⟩])
 (.seq (.seq (.reg [
   ⟨(some 7), none, .f (.mv (.t 1))⟩,
   ⟨(some 8), none, .f (.lenS (.t 7))⟩,
   ⟨(some 9), none, .f (.bin .eql (.t 8) (.c (.int .i64 0)))⟩])
 (.cond (.t 9)
  (.seq (.reg [
    ⟨(some 10), none, .f (.mv (.t 0))⟩,
    ⟨(some 11), none, .x (.call 197 [(.t 10)])⟩,
    ⟨(some 12), none, .f (.bin .add (.t 11) (.c (.int .i64 1)))⟩,
    ⟨(some 4), none, .f (.mv (.t 12))⟩])
  .ret)
  .skip))
 (.seq (.seq (.reg [
   ⟨(some 13), none, .f (.mv (.t 1))⟩,
   ⟨(some 14), none, .f (.lenS (.t 13))⟩,
   ⟨(some 15), none, .f (.bin .eql (.t 14) (.c (.int .i64 1)))⟩])
 (.cond (.t 15)
  (.seq (.reg [
    ⟨(some 16), none, .f (.mv (.t 0))⟩,
    ⟨(some 17), none, .f (.mv (.t 1))⟩,
    ⟨(some 18), none, .f (.idxS (.t 17) (.c (.int .i64 0)))⟩,
    ⟨(some 19), none, .x (.call 198 [(.t 16), (.t 18)])⟩,
    ⟨(some 4), none, .f (.mv (.t 19))⟩])
  .ret)
  .skip))
 (.seq (.reg [
   ⟨(some 5), none, .f (.mv (.c (.int .i64 0)))⟩])
 (.block 0 (.loop (.block 1 (.seq (.reg [
      ⟨(some 20), none, .f (.mv (.t 0))⟩,
      ⟨(some 21), none, .f (.mv (.t 1))⟩,
      ⟨(some 22), none, .x (.call 186 [(.t 20), (.t 21)])⟩,
      ⟨(some 6), none, .f (.mv (.t 22))⟩])
    (.seq (.seq (.reg [
      ⟨(some 23), none, .f (.mv (.t 6))⟩,
      ⟨(some 24), none, .f (.bin .eql (.t 23) (.c (.int .i64 (-1))))⟩])
    (.cond (.t 24)
     (.seq (.reg [
       ⟨(some 25), none, .f (.mv (.t 5))⟩,
       ⟨(some 4), none, .f (.mv (.t 25))⟩])
     .ret)
     .skip))
    (.seq (.reg [
      ⟨(some 26), none, .f (.mv (.t 5))⟩,
      ⟨(some 27), none, .f (.bin .add (.t 26) (.c (.int .i64 1)))⟩,
      ⟨(some 5), none, .f (.mv (.t 27))⟩])
    (.reg [
      ⟨(some 28), none, .f (.mv (.t 0))⟩,
      ⟨(some 29), none, .f (.mv (.t 6))⟩,
      ⟨(some 30), none, .f (.mv (.t 1))⟩,
      ⟨(some 31), none, .f (.lenS (.t 30))⟩,
      ⟨(some 32), none, .f (.bin .add (.t 29) (.t 31))⟩,
      ⟨(some 33), none, .f (.slcS (.t 28) (some (.t 32)) none)⟩,
      ⟨(some 0), none, .f (.mv (.t 33))⟩])))))))))))
theorem ok185 : fnComp Tryz.prog 185 = some (34, c185, [(.mv (.t 4))]) := by kernel_rfl

/-- strings.Index -/
def c186 : CC :=
 (.seq (.reg [
   ⟨(some 4), none, .f (.mv (.c (.int .i64 0)))⟩])
 (.seq (.reg [
   ⟨(some 5), none, .f (.mv (.t 0))⟩,
   ⟨(some 6), none, .f (.mv (.t 1))⟩,
   ⟨(some 7), none, .x (.call 157 [(.t 5), (.t 6)])⟩,
   ⟨(some 4), none, .f (.mv (.t 7))⟩])
 .ret))
theorem ok186 : fnComp Tryz.prog 186 = some (8, c186, [(.mv (.t 4))]) := by kernel_rfl

end Go.Proofs.YtdpaehdolhdjdaaGreatDoor

namespace Go.Proofs
open Go.Shelf
def Tryz.lays160_ren : Go.Shelf.Ren := ⟨fun | 160 => 150 | 232 => 176 | 231 => 175 | 227 => 177 | 234 => 179 | 233 => 178 | 236 => 181 | 235 => 180 | 228 => 193 | 271 => 196 | 151 => 195 | 197 => 194 | 120 => 202 | 152 => 201 | 260 => 200 | 137 => 116 | 119 => 203 | 224 => 154 | 225 => 187 | 217 => 148 | 266 => 174 | n => n, fun | 9 => 9 | 4 => 4 | 3 => 3 | 5 => 5 | 117 => 228 | 116 => 227 | 0 => 0 | 124 => 231 | 21 => 21 | 105 => 238 | 46 => 140 | 119 => 246 | 139 => 249 | 138 => 248 | n => n, fun | 3 => 9 | 4 => 10 | n => n⟩
theorem Tryz.lays160 : Go.Proofs.Lays.n160 Tryz.prog Tryz.lays160_ren := {
  mixed := by kernel_rfl
  f119 := Tryz.func203.trans (congrArg some (by kernel_rfl))
  f120 := Tryz.func202.trans (congrArg some (by kernel_rfl))
  f137 := Tryz.func116.trans (congrArg some (by kernel_rfl))
  f151 := Tryz.func195.trans (congrArg some (by kernel_rfl))
  f152 := Tryz.func201.trans (congrArg some (by kernel_rfl))
  f160 := Tryz.func150.trans (congrArg some (by kernel_rfl))
  f197 := Tryz.func194.trans (congrArg some (by kernel_rfl))
  f217 := Tryz.func148.trans (congrArg some (by kernel_rfl))
  f224 := Tryz.func154.trans (congrArg some (by kernel_rfl))
  f225 := Tryz.func187.trans (congrArg some (by kernel_rfl))
  f227 := Tryz.func177.trans (congrArg some (by kernel_rfl))
  f228 := Tryz.func193.trans (congrArg some (by kernel_rfl))
  f231 := Tryz.func175.trans (congrArg some (by kernel_rfl))
  f232 := Tryz.func176.trans (congrArg some (by kernel_rfl))
  f233 := Tryz.func178.trans (congrArg some (by kernel_rfl))
  f234 := Tryz.func179.trans (congrArg some (by kernel_rfl))
  f235 := Tryz.func180.trans (congrArg some (by kernel_rfl))
  f236 := Tryz.func181.trans (congrArg some (by kernel_rfl))
  f260 := Tryz.func200.trans (congrArg some (by kernel_rfl))
  f266 := Tryz.func174.trans (congrArg some (by kernel_rfl))
  f271 := Tryz.func196.trans (congrArg some (by kernel_rfl))
  t0 := Tryz.underlying0
  a0 := Tryz.isAgg0
  z0 := Tryz.sizeOf0
  v0 := Tryz.zeroValue0
  t3 := Tryz.underlying3
  a3 := Tryz.isAgg3
  z3 := Tryz.sizeOf3
  v3 := Tryz.zeroValue3
  t4 := Tryz.underlying4
  a4 := Tryz.isAgg4
  z4 := Tryz.sizeOf4
  v4 := Tryz.zeroValue4
  t5 := Tryz.underlying5
  a5 := Tryz.isAgg5
  z5 := Tryz.sizeOf5
  v5 := Tryz.zeroValue5
  t9 := Tryz.underlying9
  a9 := Tryz.isAgg9
  z9 := Tryz.sizeOf9
  v9 := Tryz.zeroValue9
  t21 := Tryz.underlying21
  a21 := Tryz.isAgg21
  z21 := Tryz.sizeOf21
  v21 := Tryz.zeroValue21
  t46 := Tryz.underlying140
  a46 := Tryz.isAgg140
  z46 := Tryz.sizeOf140
  v46 := Tryz.zeroValue140
  t105 := Tryz.underlying238
  a105 := Tryz.isAgg238
  z105 := Tryz.sizeOf238
  v105 := Tryz.zeroValue238
  t116 := Tryz.underlying227
  a116 := Tryz.isAgg227
  z116 := Tryz.sizeOf227
  t117 := Tryz.underlying228
  a117 := Tryz.isAgg228
  z117 := Tryz.sizeOf228
  v117 := Tryz.zeroValue228
  t119 := Tryz.underlying246
  a119 := Tryz.isAgg246
  z119 := Tryz.sizeOf246
  t124 := Tryz.underlying231
  a124 := Tryz.isAgg231
  z124 := Tryz.sizeOf231
  v124 := Tryz.zeroValue231
  t138 := Tryz.underlying248
  a138 := Tryz.isAgg248
  z138 := Tryz.sizeOf248
  v138 := Tryz.zeroValue248
  t139 := Tryz.underlying249
  a139 := Tryz.isAgg249
  z139 := Tryz.sizeOf249
  v139 := Tryz.zeroValue249
  g3 := by kernel_rfl
  g4 := by kernel_rfl }
open Go.RowKit in
theorem Tryz.strings_Trim_one (s : ByteArray) (c : UInt8) (hc : c.toNat < 128) (w : World) (hs : s.size ≤ 9223372036854775807) :
    Calls Tryz.prog 150 #[.string s, .string ⟨#[c]⟩] w fun e w' => e = .returned (.string ⟨(Lib.trimB s.data.toList c).toArray⟩) ∧ (w' = w ∨ w' = w.drew) := Any.strings_Trim_one Tryz.lays160 s c hc w hs
def Tryz.laysM173_ren : Go.Shelf.Ren := ⟨fun | 173 => 68 | 246 => 110 | 283 => 140 | 284 => 141 | 285 => 142 | 286 => 143 | 129 => 166 | 317 => 165 | 318 => 167 | 319 => 168 | 320 => 169 | 337 => 190 | 338 => 191 | n => n, fun | 2 => 2 | 3 => 3 | 9 => 9 | 4 => 4 | 171 => 190 | 0 => 0 | 53 => 93 | 37 => 35 | 5 => 5 | 173 => 193 | 212 => 216 | 51 => 217 | 20 => 20 | 213 => 218 | 46 => 140 | 232 => 243 | 233 => 244 | n => n, fun | 17 => 6 | 18 => 7 | 19 => 8 | n => n⟩
theorem Tryz.laysM173 : Go.Proofs.LaysM.n173 Tryz.prog Tryz.laysM173_ren := {
  mixed := by kernel_rfl
  f129 := Tryz.func166.trans (congrArg some (by kernel_rfl))
  f173 := Tryz.func68.trans (congrArg some (by kernel_rfl))
  f246 := Tryz.func110.trans (congrArg some (by kernel_rfl))
  f283 := Tryz.func140.trans (congrArg some (by kernel_rfl))
  f284 := Tryz.func141.trans (congrArg some (by kernel_rfl))
  f285 := Tryz.func142.trans (congrArg some (by kernel_rfl))
  f286 := Tryz.func143.trans (congrArg some (by kernel_rfl))
  f317 := Tryz.func165.trans (congrArg some (by kernel_rfl))
  f318 := Tryz.func167.trans (congrArg some (by kernel_rfl))
  f319 := Tryz.func168.trans (congrArg some (by kernel_rfl))
  f320 := Tryz.func169.trans (congrArg some (by kernel_rfl))
  f337 := Tryz.func190.trans (congrArg some (by kernel_rfl))
  f338 := Tryz.func191.trans (congrArg some (by kernel_rfl))
  t0 := Tryz.underlying0
  a0 := Tryz.isAgg0
  z0 := Tryz.sizeOf0
  v0 := Tryz.zeroValue0
  t2 := Tryz.underlying2
  a2 := Tryz.isAgg2
  z2 := Tryz.sizeOf2
  v2 := Tryz.zeroValue2
  t3 := Tryz.underlying3
  a3 := Tryz.isAgg3
  z3 := Tryz.sizeOf3
  v3 := Tryz.zeroValue3
  t4 := Tryz.underlying4
  a4 := Tryz.isAgg4
  z4 := Tryz.sizeOf4
  v4 := Tryz.zeroValue4
  t5 := Tryz.underlying5
  a5 := Tryz.isAgg5
  z5 := Tryz.sizeOf5
  v5 := Tryz.zeroValue5
  t9 := Tryz.underlying9
  a9 := Tryz.isAgg9
  z9 := Tryz.sizeOf9
  v9 := Tryz.zeroValue9
  t20 := Tryz.underlying20
  a20 := Tryz.isAgg20
  z20 := Tryz.sizeOf20
  v20 := Tryz.zeroValue20
  t37 := Tryz.underlying35
  a37 := Tryz.isAgg35
  z37 := Tryz.sizeOf35
  v37 := Tryz.zeroValue35
  t46 := Tryz.underlying140
  a46 := Tryz.isAgg140
  z46 := Tryz.sizeOf140
  v46 := Tryz.zeroValue140
  t51 := Tryz.underlying217
  a51 := Tryz.isAgg217
  z51 := Tryz.sizeOf217
  v51 := Tryz.zeroValue217
  t53 := Tryz.underlying93
  a53 := Tryz.isAgg93
  z53 := Tryz.sizeOf93
  v53 := Tryz.zeroValue93
  t171 := Tryz.underlying190
  a171 := Tryz.isAgg190
  z171 := Tryz.sizeOf190
  v171 := Tryz.zeroValue190
  t173 := Tryz.underlying193
  a173 := Tryz.isAgg193
  z173 := Tryz.sizeOf193
  v173 := Tryz.zeroValue193
  t212 := Tryz.underlying216
  a212 := Tryz.isAgg216
  z212 := Tryz.sizeOf216
  v212 := Tryz.zeroValue216
  t213 := Tryz.underlying218
  a213 := Tryz.isAgg218
  z213 := Tryz.sizeOf218
  t232 := Tryz.underlying243
  a232 := Tryz.isAgg243
  z232 := Tryz.sizeOf243
  v232 := Tryz.zeroValue243
  t233 := Tryz.underlying244
  a233 := Tryz.isAgg244
  z233 := Tryz.sizeOf244
  v233 := Tryz.zeroValue244
  g17 := by kernel_rfl
  g18 := by kernel_rfl
  g19 := by kernel_rfl
  i0 := by kernel_rfl
  i2 := by kernel_rfl
  i3 := by kernel_rfl
  i4 := by kernel_rfl
  i5 := by kernel_rfl
  i9 := by kernel_rfl
  i20 := by kernel_rfl
  i37 := by kernel_rfl
  i46 := by kernel_rfl
  i51 := by kernel_rfl
  i53 := by kernel_rfl
  i171 := by kernel_rfl
  i173 := by kernel_rfl
  i212 := by kernel_rfl
  i232 := by kernel_rfl
  i233 := by kernel_rfl
  m17 := by kernel_rfl
  m18 := by kernel_rfl
  m19 := by kernel_rfl }
open Go.RowKit Go.Sort Go.Lib in
theorem Tryz.strconv_FormatInt_10 (n : Int) (h0 : -9223372036854775808 ≤ n) (h1 : n ≤ 9223372036854775807) (w : World) (htab : Lib.TabIs Tryz.prog w "internal/strconv.uint64pow10" .u64 Lib.pow10Tab) :
    Calls Tryz.prog 68 #[.int .i64 n, .int .i64 10] w fun e w' => e = .returned (.string ⟨(Lib.itoa n).toArray⟩) ∧ ∃ k os, w' = grow (w.drewN k) os := Any.strconv_FormatInt_10 Tryz.laysM173 n h0 h1 w htab
def Tryz.lays145_ren : Go.Shelf.Ren := ⟨fun | 145 => 85 | 220 => 123 | 219 => 157 | 217 => 148 | 225 => 187 | 224 => 154 | 267 => 188 | 266 => 174 | 314 => 199 | n => n, fun | 9 => 9 | 4 => 4 | 59 => 149 | 3 => 3 | 5 => 5 | 46 => 140 | 146 => 232 | 51 => 217 | n => n, fun | 1 => 5 | n => n⟩
theorem Tryz.lays145 : Go.Proofs.Lays.n145 Tryz.prog Tryz.lays145_ren := {
  mixed := by kernel_rfl
  f145 := Tryz.func85.trans (congrArg some (by kernel_rfl))
  f217 := Tryz.func148.trans (congrArg some (by kernel_rfl))
  f219 := Tryz.func157.trans (congrArg some (by kernel_rfl))
  f220 := Tryz.func123.trans (congrArg some (by kernel_rfl))
  f224 := Tryz.func154.trans (congrArg some (by kernel_rfl))
  f225 := Tryz.func187.trans (congrArg some (by kernel_rfl))
  f266 := Tryz.func174.trans (congrArg some (by kernel_rfl))
  f267 := Tryz.func188.trans (congrArg some (by kernel_rfl))
  f314 := Tryz.func199.trans (congrArg some (by kernel_rfl))
  t3 := Tryz.underlying3
  a3 := Tryz.isAgg3
  z3 := Tryz.sizeOf3
  v3 := Tryz.zeroValue3
  t4 := Tryz.underlying4
  a4 := Tryz.isAgg4
  z4 := Tryz.sizeOf4
  v4 := Tryz.zeroValue4
  t5 := Tryz.underlying5
  a5 := Tryz.isAgg5
  z5 := Tryz.sizeOf5
  v5 := Tryz.zeroValue5
  t9 := Tryz.underlying9
  a9 := Tryz.isAgg9
  z9 := Tryz.sizeOf9
  v9 := Tryz.zeroValue9
  t46 := Tryz.underlying140
  a46 := Tryz.isAgg140
  z46 := Tryz.sizeOf140
  v46 := Tryz.zeroValue140
  t51 := Tryz.underlying217
  a51 := Tryz.isAgg217
  z51 := Tryz.sizeOf217
  v51 := Tryz.zeroValue217
  t59 := Tryz.underlying149
  a59 := Tryz.isAgg149
  z59 := Tryz.sizeOf149
  v59 := Tryz.zeroValue149
  t146 := Tryz.underlying232
  a146 := Tryz.isAgg232
  z146 := Tryz.sizeOf232
  v146 := Tryz.zeroValue232
  g1 := by kernel_rfl }
open Go.RowKit Go.Lib in
theorem Tryz.strings_Cut (s sep : ByteArray) (m : Int) (w : World) (hs : s.size < 4294967281) (hm : w.cell? ⟨5, 0, none⟩ = some (.int .i64 m)) :
    Calls Tryz.prog 85 #[.string s, .string sep] w fun e w' => e = .returned (.tuple #[.string ⟨(Lib.cut s.data.toList sep.data.toList).1.toArray⟩, .string ⟨(Lib.cut s.data.toList sep.data.toList).2.1.toArray⟩, .bool (Lib.cut s.data.toList sep.data.toList).2.2]) ∧ ∃ n, w' = w.drewN n := Any.strings_Cut Tryz.lays145 s sep m w hs hm
def Tryz.lays185_ren : Go.Shelf.Ren := ⟨fun | 185 => 120 | 187 => 151 | 115 => 152 | 253 => 153 | 224 => 154 | 254 => 155 | 255 => 182 | 291 => 183 | n => n, fun | 37 => 35 | 3 => 3 | 4 => 4 | 0 => 0 | 5 => 5 | 46 => 140 | 9 => 9 | 146 => 232 | 51 => 217 | n => n, fun | 1 => 5 | n => n⟩
theorem Tryz.lays185 : Go.Proofs.Lays.n185 Tryz.prog Tryz.lays185_ren := {
  mixed := by kernel_rfl
  f115 := Tryz.func152.trans (congrArg some (by kernel_rfl))
  f185 := Tryz.func120.trans (congrArg some (by kernel_rfl))
  f187 := Tryz.func151.trans (congrArg some (by kernel_rfl))
  f224 := Tryz.func154.trans (congrArg some (by kernel_rfl))
  f253 := Tryz.func153.trans (congrArg some (by kernel_rfl))
  f254 := Tryz.func155.trans (congrArg some (by kernel_rfl))
  f255 := Tryz.func182.trans (congrArg some (by kernel_rfl))
  f291 := Tryz.func183.trans (congrArg some (by kernel_rfl))
  t0 := Tryz.underlying0
  a0 := Tryz.isAgg0
  z0 := Tryz.sizeOf0
  v0 := Tryz.zeroValue0
  t3 := Tryz.underlying3
  a3 := Tryz.isAgg3
  z3 := Tryz.sizeOf3
  v3 := Tryz.zeroValue3
  t4 := Tryz.underlying4
  a4 := Tryz.isAgg4
  z4 := Tryz.sizeOf4
  v4 := Tryz.zeroValue4
  t5 := Tryz.underlying5
  a5 := Tryz.isAgg5
  z5 := Tryz.sizeOf5
  v5 := Tryz.zeroValue5
  t9 := Tryz.underlying9
  a9 := Tryz.isAgg9
  z9 := Tryz.sizeOf9
  v9 := Tryz.zeroValue9
  t37 := Tryz.underlying35
  a37 := Tryz.isAgg35
  z37 := Tryz.sizeOf35
  v37 := Tryz.zeroValue35
  t46 := Tryz.underlying140
  a46 := Tryz.isAgg140
  z46 := Tryz.sizeOf140
  v46 := Tryz.zeroValue140
  t51 := Tryz.underlying217
  a51 := Tryz.isAgg217
  z51 := Tryz.sizeOf217
  v51 := Tryz.zeroValue217
  t146 := Tryz.underlying232
  a146 := Tryz.isAgg232
  z146 := Tryz.sizeOf232
  v146 := Tryz.zeroValue232
  g1 := by kernel_rfl }
open Go.Proofs Go.RowKit Go.Lib in
theorem Tryz.bytes_Index_at (a1 a2 : Addr) (n c1 k c2 : Nat) (xs ys : List Int) (m : Int) (w : World) (hx : xs.length = n) (hy : ys.length = k) (hr1 : ∀ x ∈ xs, 0 ≤ x ∧ x < 256) (hr2 : ∀ y ∈ ys, 0 ≤ y ∧ y < 256) (hc1 : ∀ i, i < n → w.cell? (a1.add i) = some (.int .u8 (xs.getD i 0))) (hc2 : ∀ i, i < k → w.cell? (a2.add i) = some (.int .u8 (ys.getD i 0))) (hcap : n ≤ c1) (hs : n < 4294967281) (hk : k ≤ 9223372036854775807) (hm : w.cell? ⟨5, 0, none⟩ = some (.int .i64 m)) :
    Calls Tryz.prog 120 #[.slice (some a1) n c1, .slice (some a2) k c2] w fun e w' => e = .returned (.int .i64 (Lib.index (Lib.bytesOf xs) (Lib.bytesOf ys))) ∧ ∃ q, w' = w.drewN q := Any.bytes_Index_at Tryz.lays185 a1 a2 n c1 k c2 xs ys m w hx hy hr1 hr2 hc1 hc2 hcap hs hk hm
open Go.Proofs Go.RowKit Go.Lib in
theorem Tryz.bytes_Index_nil (p2 : Option Addr) (k c2 : Nat) (w : World) (hk : k ≤ 9223372036854775807) (h1 : k = 1 → ∃ b2 o2 cv, p2 = some ⟨b2, o2, none⟩ ∧ w.cell? ⟨b2, o2, none⟩ = some (.int .u8 cv)) :
    Calls Tryz.prog 120 #[.slice none 0 0, .slice p2 k c2] w fun e w' => e = .returned (.int .i64 (if k = 0 then 0 else -1)) ∧ w' = w := Any.bytes_Index_nil Tryz.lays185 p2 k c2 w hk h1
end Go.Proofs


namespace Go.Proofs.YtdpaehdolhdjdaaGreatDoor
open Go Go.IW

def sRow (s : List UInt8) : List IV := [.str s]

set_option maxRecDepth 20000 in
theorem idxB_c (h : IH) (s : List UInt8) (c : UInt8) : ICalls Tryz.prog 174 [.str s, .int .u8 c.toNat] h fun r h' => r = .int .i64 (Lib.indexByte s c) ∧ h' = h := by
  have := idxByte_calls (P := Tryz.prog) (f := 174) Tryz.func174 (by kernel_rfl) (by kernel_rfl) (by kernel_rfl) (by kernel_rfl) h s c.toNat
  simpa using this
set_option maxRecDepth 20000 in
theorem cntB_c (h : IH) (s : List UInt8) (c : UInt8) : ICalls Tryz.prog 198 [.str s, .int .u8 c.toNat] h fun r h' => r = .int .i64 (s.count c : Nat) ∧ h' = h := by
  have := cntByte_calls (P := Tryz.prog) (f := 198) Tryz.func198 (by kernel_rfl) (by kernel_rfl) (by kernel_rfl) (by kernel_rfl) h s c.toNat
  simpa [Lib.countByte] using this

theorem idxS_at {s : List UInt8} {k : Nat} {q : IntKind} {b : UInt8} (hb : s[k]? = some b) : idxSF (.str s) (.int q (k : Int)) = some (.int .u8 b.toNat) :=
  idxSF_of (by omega) (by simpa using hb)

set_option maxRecDepth 20000 in
theorem sIndexByte_c (h : IH) (s : List UInt8) (c : UInt8) : ICalls Tryz.prog 148 [.str s, .int .u8 c.toNat] h fun r h' => r = .int .i64 (Lib.indexByte s c) ∧ h' = h := by
  refine icalls (.of ok148) (Nat.le_of_ble_eq_true rfl) ?_
  unfold c148
  simp only [go_sem, Hold.p, HoldK.k, HoldL.K, HoldL.body, Nat.reduceBEq, Nat.reduceAdd, List.getElem?_cons_zero, List.getElem?_cons_succ, Option.bind_some, List.map_cons, List.map_nil, Nat.zero_add, if_true, List.getD_cons_zero, List.getD_cons_succ, List.contains_cons, List.contains_nil, Nat.reduceBEq, Bool.or_true, Bool.true_or, Bool.or_false, Bool.false_or, Bool.not_true, Bool.not_false, true_and, and_true]
  refine callA_of (idxB_c h s c) ?_
  rintro r h' ⟨rfl, rfl⟩
  simp only [go_sem, Hold.p, HoldK.k, HoldL.K, HoldL.body, Nat.reduceBEq, Nat.reduceAdd, List.getElem?_cons_zero, List.getElem?_cons_succ, Option.bind_some, List.map_cons, List.map_nil, Nat.zero_add, if_true, List.getD_cons_zero, List.getD_cons_succ, List.contains_cons, List.contains_nil, Nat.reduceBEq, Bool.or_true, Bool.true_or, Bool.or_false, Bool.false_or, Bool.not_true, Bool.not_false, true_and, and_true]

set_option maxRecDepth 20000 in
theorem sIndex_c (h : IH) (s : List UInt8) (c : UInt8) : ICalls Tryz.prog 157 [.str s, .str [c]] h fun r h' => r = .int .i64 (Lib.indexByte s c) ∧ h' = h := by
  refine icalls (.of ok157) (Nat.le_of_ble_eq_true rfl) ?_
  unfold c157
  have d0 : decide ((([c] : List UInt8).length : Int) = 0) = false := rfl
  have d1 : decide ((([c] : List UInt8).length : Int) = 1) = true := rfl
  have hi : idxSF (.str [c]) (.int .i64 0) = some (.int .u8 c.toNat) := rfl
  simp only [d0, d1, hi, go_sem, Hold.p, HoldK.k, HoldL.K, HoldL.body, Nat.reduceBEq, Nat.reduceAdd, List.getElem?_cons_zero, List.getElem?_cons_succ, Option.bind_some, List.map_cons, List.map_nil, Nat.zero_add, if_true, List.getD_cons_zero, List.getD_cons_succ, List.contains_cons, List.contains_nil, Nat.reduceBEq, Bool.or_true, Bool.true_or, Bool.or_false, Bool.false_or, Bool.not_true, Bool.not_false, true_and, and_true]
  by_cases hc : ([c] : List UInt8) = s
  · have hd : decide (([c] : List UInt8) = s) = true := by simpa using hc
    simp only [hd, go_sem, Hold.p, HoldK.k, HoldL.K, HoldL.body, Nat.reduceBEq, Nat.reduceAdd, List.getElem?_cons_zero, List.getElem?_cons_succ, Option.bind_some, List.map_cons, List.map_nil, Nat.zero_add, if_true, List.getD_cons_zero, List.getD_cons_succ, List.contains_cons, List.contains_nil, Nat.reduceBEq, Bool.or_true, Bool.true_or, Bool.or_false, Bool.false_or, Bool.not_true, Bool.not_false, true_and, and_true]
    subst hc
    simp [Lib.indexByte]
  · have hd : decide (([c] : List UInt8) = s) = false := by simpa using hc
    simp only [hd, d1, hi, go_sem, Hold.p, HoldK.k, HoldL.K, HoldL.body, Nat.reduceBEq, Nat.reduceAdd, List.getElem?_cons_zero, List.getElem?_cons_succ, Option.bind_some, List.map_cons, List.map_nil, Nat.zero_add, if_true, List.getD_cons_zero, List.getD_cons_succ, List.contains_cons, List.contains_nil, Nat.reduceBEq, Bool.or_true, Bool.true_or, Bool.or_false, Bool.false_or, Bool.not_true, Bool.not_false, true_and, and_true]
    refine callA_of (sIndexByte_c h s c) ?_
    rintro r h' ⟨rfl, rfl⟩
    simp only [go_sem, Hold.p, HoldK.k, HoldL.K, HoldL.body, Nat.reduceBEq, Nat.reduceAdd, List.getElem?_cons_zero, List.getElem?_cons_succ, Option.bind_some, List.map_cons, List.map_nil, Nat.zero_add, if_true, List.getD_cons_zero, List.getD_cons_succ, List.contains_cons, List.contains_nil, Nat.reduceBEq, Bool.or_true, Bool.true_or, Bool.or_false, Bool.false_or, Bool.not_true, Bool.not_false, true_and, and_true]

set_option maxRecDepth 20000 in
theorem index_c (h : IH) (s : List UInt8) (c : UInt8) : ICalls Tryz.prog 186 [.str s, .str [c]] h fun r h' => r = .int .i64 (Lib.indexByte s c) ∧ h' = h := by
  refine icalls (.of ok186) (Nat.le_of_ble_eq_true rfl) ?_
  unfold c186
  simp only [go_sem, Hold.p, HoldK.k, HoldL.K, HoldL.body, Nat.reduceBEq, Nat.reduceAdd, List.getElem?_cons_zero, List.getElem?_cons_succ, Option.bind_some, List.map_cons, List.map_nil, Nat.zero_add, if_true, List.getD_cons_zero, List.getD_cons_succ, List.contains_cons, List.contains_nil, Nat.reduceBEq, Bool.or_true, Bool.true_or, Bool.or_false, Bool.false_or, Bool.not_true, Bool.not_false, true_and, and_true]
  refine callA_of (sIndex_c h s c) ?_
  rintro r h' ⟨rfl, rfl⟩
  simp only [go_sem, Hold.p, HoldK.k, HoldL.K, HoldL.body, Nat.reduceBEq, Nat.reduceAdd, List.getElem?_cons_zero, List.getElem?_cons_succ, Option.bind_some, List.map_cons, List.map_nil, Nat.zero_add, if_true, List.getD_cons_zero, List.getD_cons_succ, List.contains_cons, List.contains_nil, Nat.reduceBEq, Bool.or_true, Bool.true_or, Bool.or_false, Bool.false_or, Bool.not_true, Bool.not_false, true_and, and_true]

set_option maxRecDepth 20000 in
theorem count_c (h : IH) (s : List UInt8) (c : UInt8) : ICalls Tryz.prog 185 [.str s, .str [c]] h fun r h' => r = .int .i64 (s.count c : Nat) ∧ h' = h := by
  refine icalls (.of ok185) (Nat.le_of_ble_eq_true rfl) ?_
  unfold c185
  have d0 : decide ((([c] : List UInt8).length : Int) = 0) = false := rfl
  have d1 : decide ((([c] : List UInt8).length : Int) = 1) = true := rfl
  have hi : idxSF (.str [c]) (.int .i64 0) = some (.int .u8 c.toNat) := rfl
  simp only [d0, d1, hi, go_sem, Hold.p, HoldK.k, HoldL.K, HoldL.body, Nat.reduceBEq, Nat.reduceAdd, List.getElem?_cons_zero, List.getElem?_cons_succ, Option.bind_some, List.map_cons, List.map_nil, Nat.zero_add, if_true, List.getD_cons_zero, List.getD_cons_succ, List.contains_cons, List.contains_nil, Nat.reduceBEq, Bool.or_true, Bool.true_or, Bool.or_false, Bool.false_or, Bool.not_true, Bool.not_false, true_and, and_true]
  refine callA_of (cntB_c h s c) ?_
  rintro r h' ⟨rfl, rfl⟩
  simp only [go_sem, Hold.p, HoldK.k, HoldL.K, HoldL.body, Nat.reduceBEq, Nat.reduceAdd, List.getElem?_cons_zero, List.getElem?_cons_succ, Option.bind_some, List.map_cons, List.map_nil, Nat.zero_add, if_true, List.getD_cons_zero, List.getD_cons_succ, List.contains_cons, List.contains_nil, Nat.reduceBEq, Bool.or_true, Bool.true_or, Bool.or_false, Bool.false_or, Bool.not_true, Bool.not_false, true_and, and_true]

theorem count_le_len (c : UInt8) (s : List UInt8) : s.count c ≤ s.length := List.count_le_length

set_option maxRecDepth 20000 in
theorem genSplit_c (h : IH) (s : List UInt8) (c : UInt8) (hm : s.length ≤ 1048576) : ICalls Tryz.prog 156 [.str s, .str [c], .int .i64 0, .int .i64 (-1)] h fun r h' => SlR h' 1 r ((cutAt c s).map sRow) ∧ Ext h h' := by
  refine icalls (.of ok156) (Nat.le_of_ble_eq_true rfl) ?_
  unfold c156
  have hcl := count_le_len c s
  have d0 : decide ((-1 : Int) = 0) = false := rfl
  have d1 : decide (([c] : List UInt8) = []) = false := by simp
  have d2 : decide ((-1 : Int) < 0) = true := rfl
  simp only [d0, d1, d2, go_sem, Hold.p, HoldK.k, HoldL.K, HoldL.body, Nat.reduceBEq, Nat.reduceAdd, List.getElem?_cons_zero, List.getElem?_cons_succ, Option.bind_some, List.map_cons, List.map_nil, Nat.zero_add, if_true, List.getD_cons_zero, List.getD_cons_succ, List.contains_cons, List.contains_nil, Nat.reduceBEq, Bool.or_true, Bool.true_or, Bool.or_false, Bool.false_or, Bool.not_true, Bool.not_false, true_and, and_true]
  refine callA_of (count_c h s c) ?_
  rintro r h' ⟨rfl, rfl⟩
  have w1 : wr .i64 ((s.count c : Int) + 1) = ((s.count c + 1 : Nat) : Int) := by rw [wr64 _ (by omega)]; rfl
  have w2 : wr .i64 ((s.length : Int) + 1) = ((s.length + 1 : Nat) : Int) := by rw [wr64 _ (by omega)]; rfl
  have hmin : min ((s.count c + 1 : Nat) : Int) ((s.length + 1 : Nat) : Int) = ((s.count c + 1 : Nat) : Int) := by omega
  have w3 : wr .i64 (((s.count c + 1 : Nat) : Int) - 1) = ((s.count c : Nat) : Int) := by rw [wr64 _ (by omega)]; omega
  simp only [w1, w2, hmin, go_sem, Hold.p, HoldK.k, HoldL.K, HoldL.body, Nat.reduceBEq, Nat.reduceAdd, List.getElem?_cons_zero, List.getElem?_cons_succ, Option.bind_some, List.map_cons, List.map_nil, Nat.zero_add, if_true, List.getD_cons_zero, List.getD_cons_succ, List.contains_cons, List.contains_nil, Nat.reduceBEq, Bool.or_true, Bool.true_or, Bool.or_false, Bool.false_or, Bool.not_true, Bool.not_false, true_and, and_true]
  refine mksA_of (by omega) (by omega) (by omega) ?_
  simp only [w3, go_sem, Hold.p, HoldK.k, HoldL.K, HoldL.body, Nat.reduceBEq, Nat.reduceAdd, List.getElem?_cons_zero, List.getElem?_cons_succ, Option.bind_some, List.map_cons, List.map_nil, Nat.zero_add, if_true, List.getD_cons_zero, List.getD_cons_succ, List.contains_cons, List.contains_nil, Nat.reduceBEq, Bool.or_true, Bool.true_or, Bool.or_false, Bool.false_or, Bool.not_true, Bool.not_false, true_and, and_true, rowA_whole, push_n, set_n, push_obj, set_obj, set_push, set_push_ne, set_set, Nat.add_assoc, Nat.left_eq_add, Nat.add_eq_left, Nat.add_left_cancel_iff, Nat.reduceEqDiff, stO_1s, stO_ws, boxA_s, one_bool, one_int, one_str, one_ptr, one_nilptr, one_slice, one_eslice, one_nilslice, one_func, one_iface, one_niliface, List.all_cons, List.all_nil, List.length_cons, List.length_nil, Nat.reduceLT, Nat.reduceEqDiff, Nat.reduceLeDiff, Bool.and_true, Nat.one_ne_zero, Nat.succ_ne_zero, reduceIte, if_false, List.getElem?_cons_zero, List.set_cons_zero, List.set_cons_succ]
  generalize hq_g0 : IH.push h' (IObj.rows (List.replicate (s.count c + 1) [IV.str []]) 9 1 false) = g0
  have e_g0 : Ext h' g0 := by rw [← hq_g0]; exact (Ext.refl _).push _
  have l_g0 : g0.n = h'.n + 1 := by rw [← hq_g0]; rfl
  have ba : At g0 h'.n (IObj.rows (List.replicate (s.count c + 1) [IV.str []]) 9 1 false) := by rw [← hq_g0]; exact At.new _ _
  clear hq_g0
  refine loop_at (fun n e g => ∃ (t : List UInt8) (done : List (List UInt8)), n = t.count c ∧ cutAt c s = done ++ cutAt c t ∧ done.length + t.count c = s.count c ∧ t.length ≤ s.length ∧ e 0 = .str t ∧ e 1 = .str [c] ∧ e 2 = .int .i64 0 ∧ e 3 = .int .i64 (s.count c : Nat) ∧
    e 9 = .slice h'.n 0 (s.count c + 1) ∧ e 10 = .int .i64 (done.length : Nat) ∧ Ext h' g ∧ At g h'.n (.rows (done.map sRow ++ List.replicate (s.count c + 1 - done.length) [IV.str []]) 9 1 false)) (s.count c) ?_ ?_
  · refine ⟨s, [], rfl, rfl, by simp, Nat.le_refl _, ?_⟩
    simp only [go_sem, Hold.p, HoldK.k, HoldL.K, HoldL.body, Nat.reduceBEq, Nat.reduceAdd, List.getElem?_cons_zero, List.getElem?_cons_succ, Option.bind_some, List.map_cons, List.map_nil, Nat.zero_add, if_true, List.getD_cons_zero, List.getD_cons_succ, List.contains_cons, List.contains_nil, Nat.reduceBEq, Bool.or_true, Bool.true_or, Bool.or_false, Bool.false_or, Bool.not_true, Bool.not_false, true_and, and_true, rowA_whole, push_n, set_n, push_obj, set_obj, set_push, set_push_ne, set_set, Nat.add_assoc, Nat.left_eq_add, Nat.add_eq_left, Nat.add_left_cancel_iff, Nat.reduceEqDiff, stO_1s, stO_ws, boxA_s, one_bool, one_int, one_str, one_ptr, one_nilptr, one_slice, one_eslice, one_nilslice, one_func, one_iface, one_niliface, List.all_cons, List.all_nil, List.length_cons, List.length_nil, Nat.reduceLT, Nat.reduceEqDiff, Nat.reduceLeDiff, Bool.and_true, Nat.one_ne_zero, Nat.succ_ne_zero, reduceIte, if_false, List.getElem?_cons_zero, List.set_cons_zero, List.set_cons_succ]
    exact ⟨rfl, e_g0, ba⟩
  · rintro n e g ⟨t, done, rfl, hcut, hcnt, htl, i0, i1, i2, i3, i9, i10, E, ba⟩
    have bae := ba.eq
    have bal := ba.lt
    simp only [i0, i1, i2, i3, i9, i10, go_sem, Hold.p, HoldK.k, HoldL.K, HoldL.body, Nat.reduceBEq, Nat.reduceAdd, List.getElem?_cons_zero, List.getElem?_cons_succ, Option.bind_some, List.map_cons, List.map_nil, Nat.zero_add, if_true, List.getD_cons_zero, List.getD_cons_succ, List.contains_cons, List.contains_nil, Nat.reduceBEq, Bool.or_true, Bool.true_or, Bool.or_false, Bool.false_or, Bool.not_true, Bool.not_false, true_and, and_true, rowA_whole, push_n, set_n, push_obj, set_obj, set_push, set_push_ne, set_set, Nat.add_assoc, Nat.left_eq_add, Nat.add_eq_left, Nat.add_left_cancel_iff, Nat.reduceEqDiff, stO_1s, stO_ws, boxA_s, one_bool, one_int, one_str, one_ptr, one_nilptr, one_slice, one_eslice, one_nilslice, one_func, one_iface, one_niliface, List.all_cons, List.all_nil, List.length_cons, List.length_nil, Nat.reduceLT, Nat.reduceEqDiff, Nat.reduceLeDiff, Bool.and_true, Nat.one_ne_zero, Nat.succ_ne_zero, reduceIte, if_false, List.getElem?_cons_zero, List.set_cons_zero, List.set_cons_succ]
    have fin : t.count c = 0 → Lib.indexByte t c = -1 → True := fun _ _ => trivial
    refine test_dec (fun hlt => ?_) (fun hlt => ?_)
    · have hpos : 0 < t.count c := by omega
      simp only [i0, i1, i2, i3, i9, i10, go_sem, Hold.p, HoldK.k, HoldL.K, HoldL.body, Nat.reduceBEq, Nat.reduceAdd, List.getElem?_cons_zero, List.getElem?_cons_succ, Option.bind_some, List.map_cons, List.map_nil, Nat.zero_add, if_true, List.getD_cons_zero, List.getD_cons_succ, List.contains_cons, List.contains_nil, Nat.reduceBEq, Bool.or_true, Bool.true_or, Bool.or_false, Bool.false_or, Bool.not_true, Bool.not_false, true_and, and_true, rowA_whole, push_n, set_n, push_obj, set_obj, set_push, set_push_ne, set_set, Nat.add_assoc, Nat.left_eq_add, Nat.add_eq_left, Nat.add_left_cancel_iff, Nat.reduceEqDiff, stO_1s, stO_ws, boxA_s, one_bool, one_int, one_str, one_ptr, one_nilptr, one_slice, one_eslice, one_nilslice, one_func, one_iface, one_niliface, List.all_cons, List.all_nil, List.length_cons, List.length_nil, Nat.reduceLT, Nat.reduceEqDiff, Nat.reduceLeDiff, Bool.and_true, Nat.one_ne_zero, Nat.succ_ne_zero, reduceIte, if_false, List.getElem?_cons_zero, List.set_cons_zero, List.set_cons_succ]
      refine callA_of (index_c g t c) ?_
      rintro r g' ⟨rfl, rfl⟩
      have hne : Lib.indexByte t c ≠ -1 := by
        intro h0
        have := cutAt_len c t
        rw [cutAt_none c h0] at this
        simp at this
        omega
      have hge := Lib.indexByte_ge t c
      obtain ⟨m, hidx⟩ : ∃ m : Nat, Lib.indexByte t c = m := ⟨(Lib.indexByte t c).toNat, by omega⟩
      obtain ⟨hml, hc2, hc3⟩ := cutAt_some c hidx
      have dm : decide ((m : Int) < 0) = false := by simp
      have w4 : wr .i64 ((m : Int) + 0) = (m : Int) := by rw [wr64 _ (by omega)]; omega
      have w5 : wr .i64 ((m : Int) + 1) = ((m + 1 : Nat) : Int) := by rw [wr64 _ (by omega)]; rfl
      have hs1 : slcSF (.str t) none (some (.int .i64 (m : Int))) = some (.str (t.take m)) := by
        rw [slcSF_of (boundF_of (by omega) (by omega)) rfl]; simp
      have hs2 : slcSF (.str t) (some (.int .i64 ((m + 1 : Nat) : Int))) none = some (.str (t.drop (m + 1))) := by
        rw [slcSF_of rfl (boundF_of (by omega) (by omega))]; simp
      have w6 : wr .i64 ((m : Int) + ((1 : Nat) : Int)) = ((m + 1 : Nat) : Int) := w5
      simp only [i0, i1, i2, i3, i9, i10, hidx, dm, w4, w5, hs1, hs2, w6, iadrF_sl, bae, iadrO_nat (show done.length < s.count c + 1 by omega), Option.map_some, Option.map_none, go_sem, Hold.p, HoldK.k, HoldL.K, HoldL.body, Nat.reduceBEq, Nat.reduceAdd, List.getElem?_cons_zero, List.getElem?_cons_succ, Option.bind_some, List.map_cons, List.map_nil, Nat.zero_add, if_true, List.getD_cons_zero, List.getD_cons_succ, List.contains_cons, List.contains_nil, Nat.reduceBEq, Bool.or_true, Bool.true_or, Bool.or_false, Bool.false_or, Bool.not_true, Bool.not_false, true_and, and_true, rowA_whole, push_n, set_n, push_obj, set_obj, set_push, set_push_ne, set_set, Nat.add_assoc, Nat.left_eq_add, Nat.add_eq_left, Nat.add_left_cancel_iff, Nat.reduceEqDiff, stO_1s, stO_ws, boxA_s, one_bool, one_int, one_str, one_ptr, one_nilptr, one_slice, one_eslice, one_nilslice, one_func, one_iface, one_niliface, List.all_cons, List.all_nil, List.length_cons, List.length_nil, Nat.reduceLT, Nat.reduceEqDiff, Nat.reduceLeDiff, Bool.and_true, Nat.one_ne_zero, Nat.succ_ne_zero, reduceIte, if_false, List.getElem?_cons_zero, List.set_cons_zero, List.set_cons_succ]
      refine stO_of (k := 0) (cs := [IV.str (t.take m)]) (row := [IV.str []]) ?_ rfl (by simp) (by simp [IV.one]) ?_
      · rw [List.getElem?_append_right (by simp), List.length_map, Nat.sub_self, List.getElem?_replicate, if_pos (by omega)]
      have hw : wrt [IV.str []] 0 [IV.str (t.take m)] = [IV.str (t.take m)] := rfl
      rw [hw]
      simp only [hidx, dm, w4, w5, hs1, hs2, w6, i0, i1, i2, i3, i9, i10, Option.map_some, Option.map_none, go_sem, Hold.p, HoldK.k, HoldL.K, HoldL.body, Nat.reduceBEq, Nat.reduceAdd, List.getElem?_cons_zero, List.getElem?_cons_succ, Option.bind_some, List.map_cons, List.map_nil, Nat.zero_add, if_true, List.getD_cons_zero, List.getD_cons_succ, List.contains_cons, List.contains_nil, Nat.reduceBEq, Bool.or_true, Bool.true_or, Bool.or_false, Bool.false_or, Bool.not_true, Bool.not_false, true_and, and_true, rowA_whole, push_n, set_n, push_obj, set_obj, set_push, set_push_ne, set_set, Nat.add_assoc, Nat.left_eq_add, Nat.add_eq_left, Nat.add_left_cancel_iff, Nat.reduceEqDiff, stO_1s, stO_ws, boxA_s, one_bool, one_int, one_str, one_ptr, one_nilptr, one_slice, one_eslice, one_nilslice, one_func, one_iface, one_niliface, List.all_cons, List.all_nil, List.length_cons, List.length_nil, Nat.reduceLT, Nat.reduceEqDiff, Nat.reduceLeDiff, Bool.and_true, Nat.one_ne_zero, Nat.succ_ne_zero, reduceIte, if_false, List.getElem?_cons_zero, List.set_cons_zero, List.set_cons_succ]
      refine ⟨_, ?_, t.drop (m + 1), done ++ [t.take m], rfl, ?_, ?_, ?_, rfl, ?_, ?_⟩
      · omega
      · rw [hcut, hc2]; simp
      · simp; omega
      · simp; omega
      · congr 2
        rw [wr64 _ (by omega)]; simp
      · exact ⟨E.set _ (by omega) _, by
          have e1 : (List.map sRow done ++ List.replicate (List.count c s + 1 - done.length) [IV.str []]).set done.length [IV.str (t.take m)] = List.map sRow (done ++ [t.take m]) ++ List.replicate (List.count c s + 1 - (done ++ [t.take m]).length) [IV.str []] := by
            obtain ⟨k, hk⟩ : ∃ k, List.count c s + 1 - done.length = k + 1 := ⟨List.count c s - done.length, by omega⟩
            have hk2 : List.count c s + 1 - (done ++ [t.take m]).length = k := by simp; omega
            rw [hk, hk2, List.set_append_right _ _ (by simp)]
            simp [List.replicate_succ, sRow]
          rw [← e1]
          exact ba.here⟩
    · have h0 : t.count c = 0 := by omega
      have hidx : Lib.indexByte t c = -1 := by
        have hge := Lib.indexByte_ge t c
        apply Classical.byContradiction
        intro hne
        obtain ⟨m, hm2⟩ : ∃ m : Nat, Lib.indexByte t c = m := ⟨(Lib.indexByte t c).toNat, by omega⟩
        have := (cutAt_some c hm2).2.2
        omega
      have hct := cutAt_none c hidx
      have hdl : done.length = s.count c := by omega
      have w4 : wr .i64 (((s.count c : Nat) : Int) + 1) = ((s.count c + 1 : Nat) : Int) := by rw [wr64 _ (by omega)]; rfl
      rw [hdl] at i10 bae
      have hsub : s.count c + 1 - s.count c = 1 := by omega
      rw [hsub] at bae
      simp only [i0, i1, i2, i3, i9, i10, iadrF_sl, bae, iadrO_nat (show s.count c < s.count c + 1 by omega), go_sem, Hold.p, HoldK.k, HoldL.K, HoldL.body, Nat.reduceBEq, Nat.reduceAdd, List.getElem?_cons_zero, List.getElem?_cons_succ, Option.bind_some, List.map_cons, List.map_nil, Nat.zero_add, if_true, List.getD_cons_zero, List.getD_cons_succ, List.contains_cons, List.contains_nil, Nat.reduceBEq, Bool.or_true, Bool.true_or, Bool.or_false, Bool.false_or, Bool.not_true, Bool.not_false, true_and, and_true, rowA_whole, push_n, set_n, push_obj, set_obj, set_push, set_push_ne, set_set, Nat.add_assoc, Nat.left_eq_add, Nat.add_eq_left, Nat.add_left_cancel_iff, Nat.reduceEqDiff, stO_1s, stO_ws, boxA_s, one_bool, one_int, one_str, one_ptr, one_nilptr, one_slice, one_eslice, one_nilslice, one_func, one_iface, one_niliface, List.all_cons, List.all_nil, List.length_cons, List.length_nil, Nat.reduceLT, Nat.reduceEqDiff, Nat.reduceLeDiff, Bool.and_true, Nat.one_ne_zero, Nat.succ_ne_zero, reduceIte, if_false, List.getElem?_cons_zero, List.set_cons_zero, List.set_cons_succ]
      refine stO_of (k := 0) (cs := [IV.str t]) (row := [IV.str []]) ?_ rfl (by simp) (by simp [IV.one]) ?_
      · rw [List.getElem?_append_right (by simp; omega)]; simp [hdl]
      have hw : wrt [IV.str []] 0 [IV.str t] = [IV.str t] := rfl
      have e1 : (List.map sRow done ++ List.replicate 1 [IV.str []]).set (s.count c) [IV.str t] = (cutAt c s).map sRow := by
        rw [hcut, hct, List.set_append_right _ _ (by simp; omega)]
        simp [hdl, sRow]
      have hlen : ((cutAt c s).map sRow).length = s.count c + 1 := by rw [List.length_map, cutAt_len]
      rw [hw, e1]
      have hsl : ∀ hh : IH, hh.obj h'.n = .rows ((cutAt c s).map sRow) 9 1 false → slcF hh 1 (.slice h'.n 0 (s.count c + 1)) none (some (.int .i64 ((s.count c + 1 : Nat) : Int))) = some (.slice h'.n 0 (s.count c + 1)) := by
        intro hh ho
        rw [slcF_of (n := s.count c + 1) (a := 0) (b := s.count c + 1) hh rfl (by rw [boundF_of (by omega) (by omega)]; simp) rfl, islc_some hh (by omega) (Nat.le_refl _) (by rw [size_eq, ho]; rfl)]
        simp
      have hsl1 := hsl (g.set h'.n (.rows ((cutAt c s).map sRow) 9 1 false)) (set_here _ _ _)
      simp only [i0, i1, i2, i3, i9, i10, w4, hsl1, Option.map_some, Option.map_none, go_sem, Hold.p, HoldK.k, HoldL.K, HoldL.body, Nat.reduceBEq, Nat.reduceAdd, List.getElem?_cons_zero, List.getElem?_cons_succ, Option.bind_some, List.map_cons, List.map_nil, Nat.zero_add, if_true, List.getD_cons_zero, List.getD_cons_succ, List.contains_cons, List.contains_nil, Nat.reduceBEq, Bool.or_true, Bool.true_or, Bool.or_false, Bool.false_or, Bool.not_true, Bool.not_false, true_and, and_true, rowA_whole, push_n, set_n, push_obj, set_obj, set_push, set_push_ne, set_set, Nat.add_assoc, Nat.left_eq_add, Nat.add_eq_left, Nat.add_left_cancel_iff, Nat.reduceEqDiff, stO_1s, stO_ws, boxA_s, one_bool, one_int, one_str, one_ptr, one_nilptr, one_slice, one_eslice, one_nilslice, one_func, one_iface, one_niliface, List.all_cons, List.all_nil, List.length_cons, List.length_nil, Nat.reduceLT, Nat.reduceEqDiff, Nat.reduceLeDiff, Bool.and_true, Nat.one_ne_zero, Nat.succ_ne_zero, reduceIte, if_false, List.getElem?_cons_zero, List.set_cons_zero, List.set_cons_succ]
      exact ⟨SlR.whole (set_here _ _ _) hlen (by simp only [set_n]; omega), E.set _ (by omega) _⟩

set_option maxRecDepth 20000 in
theorem split_c (h : IH) (s : List UInt8) (c : UInt8) (hm : s.length ≤ 1048576) : ICalls Tryz.prog 121 [.str s, .str [c]] h fun r h' => SlR h' 1 r ((cutAt c s).map sRow) ∧ Ext h h' := by
  refine icalls (.of ok121) (Nat.le_of_ble_eq_true rfl) ?_
  unfold c121
  simp only [go_sem, Hold.p, HoldK.k, HoldL.K, HoldL.body, Nat.reduceBEq, Nat.reduceAdd, List.getElem?_cons_zero, List.getElem?_cons_succ, Option.bind_some, List.map_cons, List.map_nil, Nat.zero_add, if_true, List.getD_cons_zero, List.getD_cons_succ, List.contains_cons, List.contains_nil, Nat.reduceBEq, Bool.or_true, Bool.true_or, Bool.or_false, Bool.false_or, Bool.not_true, Bool.not_false, true_and, and_true]
  refine callA_of (genSplit_c h s c hm) ?_
  rintro r h' ⟨hs, hE⟩
  simp only [go_sem, Hold.p, HoldK.k, HoldL.K, HoldL.body, Nat.reduceBEq, Nat.reduceAdd, List.getElem?_cons_zero, List.getElem?_cons_succ, Option.bind_some, List.map_cons, List.map_nil, Nat.zero_add, if_true, List.getD_cons_zero, List.getD_cons_succ, List.contains_cons, List.contains_nil, Nat.reduceBEq, Bool.or_true, Bool.true_or, Bool.or_false, Bool.false_or, Bool.not_true, Bool.not_false, true_and, and_true]
  exact ⟨hs, hE⟩

end Go.Proofs.YtdpaehdolhdjdaaGreatDoor



namespace Go.Proofs.YtdpaehdolhdjdaaGreatDoor
open Go Go.IW

/-! Bytes. -/
theorem wr_u8 (x : Int) : wr .u8 x = ((UInt8.ofNat (x % 256).toNat).toNat : Int) := by
  have h1 : wr .u8 x = x % 256 := by unfold wr; rw [IntKind.wrap_u8]
  rw [h1]
  have h2 : (x % 256).toNat < 256 := by omega
  simp [UInt8.toNat_ofNat']
  omega
theorem strRows_append (a b : List UInt8) : strRows (a ++ b) = strRows a ++ strRows b := by simp [strRows]
theorem strRows_len (a : List UInt8) : (strRows a).length = a.length := by simp [strRows]
theorem strRows_at {a : List UInt8} {k : Nat} {b : UInt8} (h : a[k]? = some b) : (strRows a)[k]? = some [.int .u8 b.toNat] := by
  unfold strRows; rw [List.getElem?_map, h]; rfl

set_option maxRecDepth 20000 in
theorem l01Copy_c (h : IH) (v : IV) (bs : List UInt8) (hs : SlR h 1 v (strRows bs)) (hbl : bs.length ≤ 16777216) : ICalls Tryz.prog 115 [v] h fun r h' => Own h.n h'.n h' 5 1 r (strRows bs) ∧ Ext h h' := by
  refine icalls (.of ok115) (Nat.le_of_ble_eq_true rfl) ?_
  unfold c115
  have hlen := hs.lenF
  rw [strRows_len] at hlen
  simp only [go_sem, Hold.p, HoldK.k, HoldL.K, HoldL.body, Nat.reduceBEq, Nat.reduceAdd, List.getElem?_cons_zero, List.getElem?_cons_succ, Option.bind_some, List.map_cons, List.map_nil, Nat.zero_add, if_true, List.getD_cons_zero, List.getD_cons_succ, List.contains_cons, List.contains_nil, Nat.reduceBEq, Bool.or_true, Bool.true_or, Bool.or_false, Bool.false_or, Bool.not_true, Bool.not_false, true_and, and_true, rowA_whole, push_n, set_n, push_obj, set_obj, set_push, set_push_ne, set_set, Nat.add_assoc, Nat.left_eq_add, Nat.add_eq_left, Nat.add_left_cancel_iff, Nat.reduceEqDiff, stO_1s, stO_ws, boxA_s, one_bool, one_int, one_str, one_ptr, one_nilptr, one_slice, one_eslice, one_nilslice, one_func, one_iface, one_niliface, List.all_cons, List.all_nil, List.length_cons, List.length_nil, Nat.reduceLT, Nat.reduceEqDiff, Nat.reduceLeDiff, Bool.and_true, Nat.one_ne_zero, Nat.succ_ne_zero, reduceIte, if_false, List.getElem?_cons_zero, List.set_cons_zero, List.set_cons_succ]
  refine loop_at (fun n e g => ∃ (x : IV) (lo hi k : Nat), n = bs.length - k ∧ k ≤ bs.length ∧ e 0 = v ∧ e 3 = x ∧ e 4 = .int .i64 (k : Nat) ∧ Ext h g ∧ h.n ≤ lo ∧ hi ≤ g.n ∧ Own lo hi g 5 1 x (strRows (bs.take k))) bs.length ?_ ?_
  · refine ⟨.eslice true, h.n, h.n, 0, by omega, by omega, ?_⟩
    simp only [go_sem, Hold.p, HoldK.k, HoldL.K, HoldL.body, Nat.reduceBEq, Nat.reduceAdd, List.getElem?_cons_zero, List.getElem?_cons_succ, Option.bind_some, List.map_cons, List.map_nil, Nat.zero_add, if_true, List.getD_cons_zero, List.getD_cons_succ, List.contains_cons, List.contains_nil, Nat.reduceBEq, Bool.or_true, Bool.true_or, Bool.or_false, Bool.false_or, Bool.not_true, Bool.not_false, true_and, and_true, rowA_whole, push_n, set_n, push_obj, set_obj, set_push, set_push_ne, set_set, Nat.add_assoc, Nat.left_eq_add, Nat.add_eq_left, Nat.add_left_cancel_iff, Nat.reduceEqDiff, stO_1s, stO_ws, boxA_s, one_bool, one_int, one_str, one_ptr, one_nilptr, one_slice, one_eslice, one_nilslice, one_func, one_iface, one_niliface, List.all_cons, List.all_nil, List.length_cons, List.length_nil, Nat.reduceLT, Nat.reduceEqDiff, Nat.reduceLeDiff, Bool.and_true, Nat.one_ne_zero, Nat.succ_ne_zero, reduceIte, if_false, List.getElem?_cons_zero, List.set_cons_zero, List.set_cons_succ]
    exact ⟨rfl, Ext.refl _, Nat.le_refl _, Nat.le_refl _, Own.empty⟩
  · rintro n e g ⟨x, lo, hi, k, rfl, hk, i0, i3, i4, E, hlo, hhi, o⟩
    have hle := E.le
    simp only [i0, i3, i4, hlen, go_sem, Hold.p, HoldK.k, HoldL.K, HoldL.body, Nat.reduceBEq, Nat.reduceAdd, List.getElem?_cons_zero, List.getElem?_cons_succ, Option.bind_some, List.map_cons, List.map_nil, Nat.zero_add, if_true, List.getD_cons_zero, List.getD_cons_succ, List.contains_cons, List.contains_nil, Nat.reduceBEq, Bool.or_true, Bool.true_or, Bool.or_false, Bool.false_or, Bool.not_true, Bool.not_false, true_and, and_true, rowA_whole, push_n, set_n, push_obj, set_obj, set_push, set_push_ne, set_set, Nat.add_assoc, Nat.left_eq_add, Nat.add_eq_left, Nat.add_left_cancel_iff, Nat.reduceEqDiff, stO_1s, stO_ws, boxA_s, one_bool, one_int, one_str, one_ptr, one_nilptr, one_slice, one_eslice, one_nilslice, one_func, one_iface, one_niliface, List.all_cons, List.all_nil, List.length_cons, List.length_nil, Nat.reduceLT, Nat.reduceEqDiff, Nat.reduceLeDiff, Bool.and_true, Nat.one_ne_zero, Nat.succ_ne_zero, reduceIte, if_false, List.getElem?_cons_zero, List.set_cons_zero, List.set_cons_succ]
    refine test_dec (fun hlt => ?_) (fun hlt => ?_)
    · have hlt' : k < bs.length := by omega
      have hkp : bs[k]? = some bs[k] := List.getElem?_eq_getElem hlt'
      generalize bs[k] = b at hkp
      obtain ⟨l, j, hia, hll, hrow⟩ := (hs.ext E).at (m := k) (strRows_at hkp) .i64
      have hc := cellO_row hrow
      simp only [i0, i3, i4, hia, hc, go_sem, Hold.p, HoldK.k, HoldL.K, HoldL.body, Nat.reduceBEq, Nat.reduceAdd, List.getElem?_cons_zero, List.getElem?_cons_succ, Option.bind_some, List.map_cons, List.map_nil, Nat.zero_add, if_true, List.getD_cons_zero, List.getD_cons_succ, List.contains_cons, List.contains_nil, Nat.reduceBEq, Bool.or_true, Bool.true_or, Bool.or_false, Bool.false_or, Bool.not_true, Bool.not_false, true_and, and_true, rowA_whole, push_n, set_n, push_obj, set_obj, set_push, set_push_ne, set_set, Nat.add_assoc, Nat.left_eq_add, Nat.add_eq_left, Nat.add_left_cancel_iff, Nat.reduceEqDiff, stO_1s, stO_ws, boxA_s, one_bool, one_int, one_str, one_ptr, one_nilptr, one_slice, one_eslice, one_nilslice, one_func, one_iface, one_niliface, List.all_cons, List.all_nil, List.length_cons, List.length_nil, Nat.reduceLT, Nat.reduceEqDiff, Nat.reduceLeDiff, Bool.and_true, Nat.one_ne_zero, Nat.succ_ne_zero, reduceIte, if_false, List.getElem?_cons_zero, List.set_cons_zero, List.set_cons_succ]
      generalize hq_g1 : IH.push g (IObj.rows [[.int .u8 b.toNat]] 5 1 false) = g1
      have e_g1 : Ext g g1 := by rw [← hq_g1]; exact (Ext.refl _).push _
      have l_g1 : g1.n = g.n + 1 := by rw [← hq_g1]; rfl
      have ba : At g1 g.n (IObj.rows [[.int .u8 b.toNat]] 5 1 false) := by rw [← hq_g1]; exact At.new _ _
      clear hq_g1
      have o := o.ext e_g1
      have E := E.ext e_g1
      refine o.app (by simp) (by rw [strRows_len]; simp; omega) ?_
      intro v6 h6 o6 t6 n6 v6o v6c
      have E := E.turn o (by omega) t6
      have le_t6 := t6.le
      simp only [i0, i3, i4, go_sem, Hold.p, HoldK.k, HoldL.K, HoldL.body, Nat.reduceBEq, Nat.reduceAdd, List.getElem?_cons_zero, List.getElem?_cons_succ, Option.bind_some, List.map_cons, List.map_nil, Nat.zero_add, if_true, List.getD_cons_zero, List.getD_cons_succ, List.contains_cons, List.contains_nil, Nat.reduceBEq, Bool.or_true, Bool.true_or, Bool.or_false, Bool.false_or, Bool.not_true, Bool.not_false, true_and, and_true, rowA_whole, push_n, set_n, push_obj, set_obj, set_push, set_push_ne, set_set, Nat.add_assoc, Nat.left_eq_add, Nat.add_eq_left, Nat.add_left_cancel_iff, Nat.reduceEqDiff, stO_1s, stO_ws, boxA_s, one_bool, one_int, one_str, one_ptr, one_nilptr, one_slice, one_eslice, one_nilslice, one_func, one_iface, one_niliface, List.all_cons, List.all_nil, List.length_cons, List.length_nil, Nat.reduceLT, Nat.reduceEqDiff, Nat.reduceLeDiff, Bool.and_true, Nat.one_ne_zero, Nat.succ_ne_zero, reduceIte, if_false, List.getElem?_cons_zero, List.set_cons_zero, List.set_cons_succ]
      refine ⟨_, ?_, v6, g1.n, g1.n + 1, k + 1, rfl, by omega, rfl, wr64_succ k (by omega), E, by omega, by omega, ?_⟩
      · omega
      · rw [List.take_add_one, hkp, strRows_append]; exact o6
    · obtain rfl : k = bs.length := by omega
      rw [List.take_length] at o
      simp only [i3, go_sem, Hold.p, HoldK.k, HoldL.K, HoldL.body, Nat.reduceBEq, Nat.reduceAdd, List.getElem?_cons_zero, List.getElem?_cons_succ, Option.bind_some, List.map_cons, List.map_nil, Nat.zero_add, if_true, List.getD_cons_zero, List.getD_cons_succ, List.contains_cons, List.contains_nil, Nat.reduceBEq, Bool.or_true, Bool.true_or, Bool.or_false, Bool.false_or, Bool.not_true, Bool.not_false, true_and, and_true, rowA_whole, push_n, set_n, push_obj, set_obj, set_push, set_push_ne, set_set, Nat.add_assoc, Nat.left_eq_add, Nat.add_eq_left, Nat.add_left_cancel_iff, Nat.reduceEqDiff, stO_1s, stO_ws, boxA_s, one_bool, one_int, one_str, one_ptr, one_nilptr, one_slice, one_eslice, one_nilslice, one_func, one_iface, one_niliface, List.all_cons, List.all_nil, List.length_cons, List.length_nil, Nat.reduceLT, Nat.reduceEqDiff, Nat.reduceLeDiff, Bool.and_true, Nat.one_ne_zero, Nat.succ_ne_zero, reduceIte, if_false, List.getElem?_cons_zero, List.set_cons_zero, List.set_cons_succ]
      exact ⟨o.wide hlo hhi (Nat.le_refl _), E⟩

set_option maxRecDepth 20000 in
theorem l01Join_c (h : IH) (v w : IV) (az bs : List UInt8) (hv : SlR h 1 v (strRows az)) (hw : SlR h 1 w (strRows bs)) (hal : az.length ≤ 8388608) (hbl : bs.length ≤ 8388608) : ICalls Tryz.prog 80 [v, w] h fun r h' => Own h.n h'.n h' 5 1 r (strRows (az ++ bs)) ∧ Ext h h' := by
  refine icalls (.of ok80) (Nat.le_of_ble_eq_true rfl) ?_
  unfold c80
  have hlen := hw.lenF
  rw [strRows_len] at hlen
  simp only [go_sem, Hold.p, HoldK.k, HoldL.K, HoldL.body, Nat.reduceBEq, Nat.reduceAdd, List.getElem?_cons_zero, List.getElem?_cons_succ, Option.bind_some, List.map_cons, List.map_nil, Nat.zero_add, if_true, List.getD_cons_zero, List.getD_cons_succ, List.contains_cons, List.contains_nil, Nat.reduceBEq, Bool.or_true, Bool.true_or, Bool.or_false, Bool.false_or, Bool.not_true, Bool.not_false, true_and, and_true, rowA_whole, push_n, set_n, push_obj, set_obj, set_push, set_push_ne, set_set, Nat.add_assoc, Nat.left_eq_add, Nat.add_eq_left, Nat.add_left_cancel_iff, Nat.reduceEqDiff, stO_1s, stO_ws, boxA_s, one_bool, one_int, one_str, one_ptr, one_nilptr, one_slice, one_eslice, one_nilslice, one_func, one_iface, one_niliface, List.all_cons, List.all_nil, List.length_cons, List.length_nil, Nat.reduceLT, Nat.reduceEqDiff, Nat.reduceLeDiff, Bool.and_true, Nat.one_ne_zero, Nat.succ_ne_zero, reduceIte, if_false, List.getElem?_cons_zero, List.set_cons_zero, List.set_cons_succ]
  refine callA_of (l01Copy_c h v az hv (by omega)) ?_
  rintro x0 h1 ⟨o0, E0⟩
  simp only [go_sem, Hold.p, HoldK.k, HoldL.K, HoldL.body, Nat.reduceBEq, Nat.reduceAdd, List.getElem?_cons_zero, List.getElem?_cons_succ, Option.bind_some, List.map_cons, List.map_nil, Nat.zero_add, if_true, List.getD_cons_zero, List.getD_cons_succ, List.contains_cons, List.contains_nil, Nat.reduceBEq, Bool.or_true, Bool.true_or, Bool.or_false, Bool.false_or, Bool.not_true, Bool.not_false, true_and, and_true, rowA_whole, push_n, set_n, push_obj, set_obj, set_push, set_push_ne, set_set, Nat.add_assoc, Nat.left_eq_add, Nat.add_eq_left, Nat.add_left_cancel_iff, Nat.reduceEqDiff, stO_1s, stO_ws, boxA_s, one_bool, one_int, one_str, one_ptr, one_nilptr, one_slice, one_eslice, one_nilslice, one_func, one_iface, one_niliface, List.all_cons, List.all_nil, List.length_cons, List.length_nil, Nat.reduceLT, Nat.reduceEqDiff, Nat.reduceLeDiff, Bool.and_true, Nat.one_ne_zero, Nat.succ_ne_zero, reduceIte, if_false, List.getElem?_cons_zero, List.set_cons_zero, List.set_cons_succ]
  have hle0 := E0.le
  refine loop_at (fun n e g => ∃ (x : IV) (lo hi k : Nat), n = bs.length - k ∧ k ≤ bs.length ∧ e 1 = w ∧ e 5 = x ∧ e 6 = .int .i64 (k : Nat) ∧ Ext h g ∧ h.n ≤ lo ∧ hi ≤ g.n ∧ Own lo hi g 5 1 x (strRows (az ++ bs.take k))) bs.length ?_ ?_
  · refine ⟨x0, h.n, h1.n, 0, by omega, by omega, ?_⟩
    simp only [go_sem, Hold.p, HoldK.k, HoldL.K, HoldL.body, Nat.reduceBEq, Nat.reduceAdd, List.getElem?_cons_zero, List.getElem?_cons_succ, Option.bind_some, List.map_cons, List.map_nil, Nat.zero_add, if_true, List.getD_cons_zero, List.getD_cons_succ, List.contains_cons, List.contains_nil, Nat.reduceBEq, Bool.or_true, Bool.true_or, Bool.or_false, Bool.false_or, Bool.not_true, Bool.not_false, true_and, and_true, rowA_whole, push_n, set_n, push_obj, set_obj, set_push, set_push_ne, set_set, Nat.add_assoc, Nat.left_eq_add, Nat.add_eq_left, Nat.add_left_cancel_iff, Nat.reduceEqDiff, stO_1s, stO_ws, boxA_s, one_bool, one_int, one_str, one_ptr, one_nilptr, one_slice, one_eslice, one_nilslice, one_func, one_iface, one_niliface, List.all_cons, List.all_nil, List.length_cons, List.length_nil, Nat.reduceLT, Nat.reduceEqDiff, Nat.reduceLeDiff, Bool.and_true, Nat.one_ne_zero, Nat.succ_ne_zero, reduceIte, if_false, List.getElem?_cons_zero, List.set_cons_zero, List.set_cons_succ]
    exact ⟨rfl, E0, Nat.le_refl _, Nat.le_refl _, by simpa using o0⟩
  · rintro n e g ⟨x, lo, hi, k, rfl, hk, i1, i5, i6, E, hlo, hhi, o⟩
    have hle := E.le
    simp only [i1, i5, i6, hlen, go_sem, Hold.p, HoldK.k, HoldL.K, HoldL.body, Nat.reduceBEq, Nat.reduceAdd, List.getElem?_cons_zero, List.getElem?_cons_succ, Option.bind_some, List.map_cons, List.map_nil, Nat.zero_add, if_true, List.getD_cons_zero, List.getD_cons_succ, List.contains_cons, List.contains_nil, Nat.reduceBEq, Bool.or_true, Bool.true_or, Bool.or_false, Bool.false_or, Bool.not_true, Bool.not_false, true_and, and_true, rowA_whole, push_n, set_n, push_obj, set_obj, set_push, set_push_ne, set_set, Nat.add_assoc, Nat.left_eq_add, Nat.add_eq_left, Nat.add_left_cancel_iff, Nat.reduceEqDiff, stO_1s, stO_ws, boxA_s, one_bool, one_int, one_str, one_ptr, one_nilptr, one_slice, one_eslice, one_nilslice, one_func, one_iface, one_niliface, List.all_cons, List.all_nil, List.length_cons, List.length_nil, Nat.reduceLT, Nat.reduceEqDiff, Nat.reduceLeDiff, Bool.and_true, Nat.one_ne_zero, Nat.succ_ne_zero, reduceIte, if_false, List.getElem?_cons_zero, List.set_cons_zero, List.set_cons_succ]
    refine test_dec (fun hlt => ?_) (fun hlt => ?_)
    · have hlt' : k < bs.length := by omega
      have hkp : bs[k]? = some bs[k] := List.getElem?_eq_getElem hlt'
      generalize bs[k] = b at hkp
      obtain ⟨l, j, hia, hll, hrow⟩ := (hw.ext E).at (m := k) (strRows_at hkp) .i64
      have hc := cellO_row hrow
      simp only [i1, i5, i6, hia, hc, go_sem, Hold.p, HoldK.k, HoldL.K, HoldL.body, Nat.reduceBEq, Nat.reduceAdd, List.getElem?_cons_zero, List.getElem?_cons_succ, Option.bind_some, List.map_cons, List.map_nil, Nat.zero_add, if_true, List.getD_cons_zero, List.getD_cons_succ, List.contains_cons, List.contains_nil, Nat.reduceBEq, Bool.or_true, Bool.true_or, Bool.or_false, Bool.false_or, Bool.not_true, Bool.not_false, true_and, and_true, rowA_whole, push_n, set_n, push_obj, set_obj, set_push, set_push_ne, set_set, Nat.add_assoc, Nat.left_eq_add, Nat.add_eq_left, Nat.add_left_cancel_iff, Nat.reduceEqDiff, stO_1s, stO_ws, boxA_s, one_bool, one_int, one_str, one_ptr, one_nilptr, one_slice, one_eslice, one_nilslice, one_func, one_iface, one_niliface, List.all_cons, List.all_nil, List.length_cons, List.length_nil, Nat.reduceLT, Nat.reduceEqDiff, Nat.reduceLeDiff, Bool.and_true, Nat.one_ne_zero, Nat.succ_ne_zero, reduceIte, if_false, List.getElem?_cons_zero, List.set_cons_zero, List.set_cons_succ]
      generalize hq_g1 : IH.push g (IObj.rows [[.int .u8 b.toNat]] 5 1 false) = g1
      have e_g1 : Ext g g1 := by rw [← hq_g1]; exact (Ext.refl _).push _
      have l_g1 : g1.n = g.n + 1 := by rw [← hq_g1]; rfl
      have ba : At g1 g.n (IObj.rows [[.int .u8 b.toNat]] 5 1 false) := by rw [← hq_g1]; exact At.new _ _
      clear hq_g1
      have o := o.ext e_g1
      have E := E.ext e_g1
      refine o.app (by simp) (by rw [strRows_len]; simp; omega) ?_
      intro v6 h6 o6 t6 n6 v6o v6c
      have E := E.turn o (by omega) t6
      have le_t6 := t6.le
      simp only [i1, i5, i6, go_sem, Hold.p, HoldK.k, HoldL.K, HoldL.body, Nat.reduceBEq, Nat.reduceAdd, List.getElem?_cons_zero, List.getElem?_cons_succ, Option.bind_some, List.map_cons, List.map_nil, Nat.zero_add, if_true, List.getD_cons_zero, List.getD_cons_succ, List.contains_cons, List.contains_nil, Nat.reduceBEq, Bool.or_true, Bool.true_or, Bool.or_false, Bool.false_or, Bool.not_true, Bool.not_false, true_and, and_true, rowA_whole, push_n, set_n, push_obj, set_obj, set_push, set_push_ne, set_set, Nat.add_assoc, Nat.left_eq_add, Nat.add_eq_left, Nat.add_left_cancel_iff, Nat.reduceEqDiff, stO_1s, stO_ws, boxA_s, one_bool, one_int, one_str, one_ptr, one_nilptr, one_slice, one_eslice, one_nilslice, one_func, one_iface, one_niliface, List.all_cons, List.all_nil, List.length_cons, List.length_nil, Nat.reduceLT, Nat.reduceEqDiff, Nat.reduceLeDiff, Bool.and_true, Nat.one_ne_zero, Nat.succ_ne_zero, reduceIte, if_false, List.getElem?_cons_zero, List.set_cons_zero, List.set_cons_succ]
      refine ⟨_, ?_, v6, g1.n, g1.n + 1, k + 1, rfl, by omega, rfl, wr64_succ k (by omega), E, by omega, by omega, ?_⟩
      · omega
      · rw [List.take_add_one, hkp, ← List.append_assoc, strRows_append]; exact o6
    · obtain rfl : k = bs.length := by omega
      rw [List.take_length] at o
      simp only [i5, go_sem, Hold.p, HoldK.k, HoldL.K, HoldL.body, Nat.reduceBEq, Nat.reduceAdd, List.getElem?_cons_zero, List.getElem?_cons_succ, Option.bind_some, List.map_cons, List.map_nil, Nat.zero_add, if_true, List.getD_cons_zero, List.getD_cons_succ, List.contains_cons, List.contains_nil, Nat.reduceBEq, Bool.or_true, Bool.true_or, Bool.or_false, Bool.false_or, Bool.not_true, Bool.not_false, true_and, and_true, rowA_whole, push_n, set_n, push_obj, set_obj, set_push, set_push_ne, set_set, Nat.add_assoc, Nat.left_eq_add, Nat.add_eq_left, Nat.add_left_cancel_iff, Nat.reduceEqDiff, stO_1s, stO_ws, boxA_s, one_bool, one_int, one_str, one_ptr, one_nilptr, one_slice, one_eslice, one_nilslice, one_func, one_iface, one_niliface, List.all_cons, List.all_nil, List.length_cons, List.length_nil, Nat.reduceLT, Nat.reduceEqDiff, Nat.reduceLeDiff, Bool.and_true, Nat.one_ne_zero, Nat.succ_ne_zero, reduceIte, if_false, List.getElem?_cons_zero, List.set_cons_zero, List.set_cons_succ]
      exact ⟨o.wide hlo hhi (Nat.le_refl _), E⟩

set_option maxRecDepth 20000 in
theorem l01In_c (h : IH) (n lo hi : Int) :
    ICalls Tryz.prog 57 [.int .i64 n, .int .i64 lo, .int .i64 hi] h fun r h' => r = .bool (decide (lo ≤ n) && decide (n ≤ hi)) ∧ h' = h := by
  refine icalls (.of ok57) (Nat.le_of_ble_eq_true rfl) ?_
  unfold c57
  simp only [go_sem, Hold.p, HoldK.k, HoldL.K, HoldL.body, Nat.reduceBEq, Nat.reduceAdd, List.getElem?_cons_zero, List.getElem?_cons_succ, Option.bind_some, List.map_cons, List.map_nil, Nat.zero_add, if_true, List.getD_cons_zero, List.getD_cons_succ, List.contains_cons, List.contains_nil, Nat.reduceBEq, Bool.or_true, Bool.true_or, Bool.or_false, Bool.false_or, Bool.not_true, Bool.not_false, true_and, and_true]
end Go.Proofs.YtdpaehdolhdjdaaGreatDoor



namespace Go.Proofs.YtdpaehdolhdjdaaGreatDoor
open Go Go.IW

end Go.Proofs.YtdpaehdolhdjdaaGreatDoor



namespace Go.Proofs.YtdpaehdolhdjdaaGreatDoor
open Go Go.IW

theorem islc_at {h : IH} {sz a b : Nat} {v : IV} {l i m : Nat} {mx : Option Nat} (e : islc h sz v a b mx = some (.slice l i m)) : ∃ i0 m0, v = .slice l i0 m0 := by
  cases v with
  | slice l0 i0 m0 =>
    simp only [islc] at e
    split at e
    · split at e
      · split at e
        · cases e
        · cases e; exact ⟨i0, m0, rfl⟩
      · split at e
        · split at e
          · cases e
          · cases e; exact ⟨i0, m0, rfl⟩
        · cases e
    · cases e
  | eslice z => simp only [islc] at e; split at e <;> cases e
  | nilslice => simp only [islc] at e; split at e <;> cases e
  | _ => cases e
theorem slcF_at {h : IH} {sz : Nat} {v : IV} {l i m : Nat} {lo hi : Option IV} (e : slcF h sz v lo hi = some (.slice l i m)) : ∃ i0 m0, v = .slice l i0 m0 := by
  unfold slcF at e
  split at e
  · split at e
    · split at e
      · exact islc_at e
      · cases e
    · cases e
  · cases e

theorem strRows_take (a : List UInt8) (n : Nat) : (strRows a).take n = strRows (a.take n) := by simp [strRows, List.map_take]
theorem strRows_drop (a : List UInt8) (n : Nat) : (strRows a).drop n = strRows (a.drop n) := by simp [strRows, List.map_drop]

end Go.Proofs.YtdpaehdolhdjdaaGreatDoor



namespace Go.Proofs.YtdpaehdolhdjdaaGreatDoor
open Go Go.IW

end Go.Proofs.YtdpaehdolhdjdaaGreatDoor



namespace Go.Proofs.YtdpaehdolhdjdaaGreatDoor
open Go Go.IW
section
attribute [local go_sem] List.getElem?_cons_zero List.getElem?_cons_succ Option.bind_some List.map_cons List.map_nil Nat.zero_add if_true List.getD_cons_zero List.getD_cons_succ List.contains_cons List.contains_nil Bool.or_true Bool.true_or Bool.or_false Bool.false_or Bool.not_true Bool.not_false true_and and_true rowA_whole mid_get stO_mid rowO_rows cellO_rows push_n set_n push_at push_old set_here set_there set_pushT set_pushN set_set upd_ne Nat.add_assoc Nat.add_zero stO_1s stO_ws boxA_s List.all_cons List.all_nil one_bool one_int one_str one_ptr one_nilptr one_slice one_eslice one_nilslice one_func one_iface one_niliface Bool.and_true Bool.and_self List.length_cons List.length_nil Nat.one_ne_zero Nat.succ_ne_zero if_false List.set_cons_zero List.set_cons_succ lay_nil lay_1 lay_w Option.map_some

/-- A source of drawn numbers over a code. -/
structure Src (h : IH) (p : Nat) (v : IV) (code : List UInt8) : Prop where
  at_ : ∃ pos st : Int, At h p (.rows [[v, .int .i64 pos, .int .u64 st]] 95 3 false) ∧ 0 ≤ pos ∧ pos ≤ code.length
  sl : SlR h 1 v (strRows code)
  ne : ∀ l i n, v = .slice l i n → l ≠ p
theorem Src.ext {h g : IH} {p : Nat} {v : IV} {code : List UInt8} (s : Src h p v code) (e : Ext h g) : Src g p v code := by
  obtain ⟨pos, st, a, b, c⟩ := s.at_
  exact ⟨⟨pos, st, a.ext e, b, c⟩, s.sl.ext e, s.ne⟩
theorem wrU (x : Int) : wr .u64 x = x % 18446744073709551616 := by unfold wr; rw [IntKind.wrap_u64]
theorem wrU_nn (x : Int) : 0 ≤ wr .u64 x := by rw [wrU]; omega
set_option maxRecDepth 20000 in
theorem l01Next_c (h : IH) (p : Nat) (v : IV) (code : List UInt8) (n : Int) (S : Src h p v code) (h0 : 0 < n) (h1 : n ≤ 1099511627776) (hl : code.length ≤ 1048576) :
    ICalls Tryz.prog 43 [.ptr p 0 0, .int .i64 n] h fun r h' => ∃ x : Int, r = .int .i64 x ∧ 0 ≤ x ∧ x < n ∧ Src h' p v code ∧ Sav p h h' ∧ h'.n = h.n := by
  refine icalls (.of ok43) (Nat.le_of_ble_eq_true rfl) ?_
  unfold c43
  obtain ⟨pos, st, ha, hp0, hp1⟩ := S.at_
  have hs := S.sl
  have hv1 := hs.one
  have hlen := hs.lenF
  rw [strRows_len] at hlen
  have q0 := ha.eq
  have d0 : decide (n ≤ 0) = false := decide_eq_false (by omega)
  generalize hst : wr .u64 (wr .u64 (st * 6364136223846793005) + 1442695040888963407) = s2
  have hs2 : 0 ≤ s2 := by rw [← hst]; exact wrU_nn _
  have hshr : ibin .shr (.int .u64 s2) (.int .u64 33) = some (.int .u64 (s2 / 8589934592)) := by
    have := ib_shr (k := .u64) (a := s2) (b := 33) .u64 (by decide)
    have hm : min (33 : Int).toNat IntKind.u64.bits = 33 := rfl
    rw [hm, Int.fdiv_eq_ediv_of_nonneg _ (by decide)] at this
    exact this
  have hwn : wr .u64 n = n := by rw [wrU]; omega
  have hrem : ∀ x : Int, 0 ≤ x → ibin .rem (.int .u64 x) (.int .u64 n) = some (.int .u64 (x % n)) := by
    intro x hx
    simp only [ibin, if_true, if_neg (show ¬ n = 0 by omega), Int.tmod_eq_emod_of_nonneg hx]
  have hr0 : ∀ x : Int, 0 ≤ x % n ∧ x % n < n := fun x => ⟨Int.emod_nonneg _ (by omega), Int.emod_lt_of_pos _ h0⟩
  have hri : ∀ x : Int, wr .i64 (x % n) = x % n := fun x => wr64 _ (by have := hr0 x; omega)
  have fin : ∀ (pos' : Int), 0 ≤ pos' → pos' ≤ code.length → Src (h.set p (.rows [[v, .int .i64 pos', .int .u64 s2]] 95 3 false)) p v code ∧ Sav p h (h.set p (.rows [[v, .int .i64 pos', .int .u64 s2]] 95 3 false)) := by
    intro pos' a b
    have sv : Sav p h (h.set p (.rows [[v, .int .i64 pos', .int .u64 s2]] 95 3 false)) := (Sav.refl p h).set (.inr rfl) _
    exact ⟨⟨⟨pos', s2, ha.here, a, b⟩, sv.sl hs S.ne, S.ne⟩, sv⟩
  by_cases hlt : pos < code.length
  · have d1 : decide (pos < (code.length : Int)) = true := decide_eq_true hlt
    obtain ⟨k, rfl⟩ : ∃ k : Nat, pos = k := ⟨pos.toNat, by omega⟩
    have hkl : k < code.length := by omega
    have hkp : code[k]? = some code[k] := List.getElem?_eq_getElem hkl
    generalize code[k] = c at hkp
    obtain ⟨l, j, hia, hll, hrow⟩ := hs.at (m := k) (strRows_at hkp) .i64
    obtain ⟨vi, vn, hve⟩ := iadr_sl hia
    have hlp : l ≠ p := S.ne _ _ _ hve
    have hia2 : ∀ o, iadrF (h.set p o) 1 v (.int .i64 (k : Nat)) = some (.ptr l j 0) := fun o => iadr_same hia (set_there _ _ _ _ hlp)
    have hcc := cellO_row hrow
    have w1 : wr .i64 ((k : Int) + 1) = ((k + 1 : Nat) : Int) := by rw [wr64 _ (by omega)]; rfl
    have hx : 0 ≤ IW.bits .xor .u64 (s2 / 8589934592) (wr .u64 (c.toNat : Int)) := by unfold IW.bits; exact wrU_nn _
    simp (disch := (first | omega | assumption | (simp only [push_n, set_n, put_n, List.length_cons, List.length_nil, List.length_append, Nat.reduceAdd]; done) | (simp only [push_n, set_n, put_n, List.length_cons, List.length_nil, List.length_append]; omega) | (simp only [List.all_cons, List.all_nil, one_bool, one_int, one_str, one_ptr, one_nilptr, one_slice, one_eslice, one_nilslice, one_func, one_iface, one_niliface, Bool.and_true, Bool.true_and, List.getD_cons_zero, List.getD_cons_succ, List.contains_cons, List.contains_nil, Bool.or_true, Bool.true_or, Bool.or_false, Bool.false_or, Nat.reduceBEq, *]; done) | fail)) only [d0, q0, hst, hshr, hlen, d1, hia2, hcc, hwn, hrem _ hx, hri, w1, go_sem, Hold.p, HoldK.k, HoldL.K, HoldL.body, Nat.reduceBEq, Nat.reduceAdd, reduceIte]
    exact ⟨_, rfl, (hr0 _).1, (hr0 _).2, (fin _ (by omega) (by omega)).1, (fin _ (by omega) (by omega)).2⟩
  · have d1 : decide (pos < (code.length : Int)) = false := decide_eq_false hlt
    have hx : 0 ≤ s2 / 8589934592 := by omega
    simp (disch := (first | omega | assumption | (simp only [push_n, set_n, put_n, List.length_cons, List.length_nil, List.length_append, Nat.reduceAdd]; done) | (simp only [push_n, set_n, put_n, List.length_cons, List.length_nil, List.length_append]; omega) | (simp only [List.all_cons, List.all_nil, one_bool, one_int, one_str, one_ptr, one_nilptr, one_slice, one_eslice, one_nilslice, one_func, one_iface, one_niliface, Bool.and_true, Bool.true_and, List.getD_cons_zero, List.getD_cons_succ, List.contains_cons, List.contains_nil, Bool.or_true, Bool.true_or, Bool.or_false, Bool.false_or, Nat.reduceBEq, *]; done) | fail)) only [d0, q0, hst, hshr, hlen, d1, hwn, hrem _ hx, hri, go_sem, Hold.p, HoldK.k, HoldL.K, HoldL.body, Nat.reduceBEq, Nat.reduceAdd, reduceIte]
    exact ⟨_, rfl, (hr0 _).1, (hr0 _).2, (fin _ (by omega) (by omega)).1, (fin _ (by omega) (by omega)).2⟩
end
end Go.Proofs.YtdpaehdolhdjdaaGreatDoor

