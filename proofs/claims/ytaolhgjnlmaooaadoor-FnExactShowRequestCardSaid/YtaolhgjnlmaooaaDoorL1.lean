import Derived.Test.YtaolhgjnlmaooaaDoorK2
import Derived.Test.YtaolhgjnlmaooaaDoorProg
import Derived.KernelRfl
import Derived.Shelf.Strings.OnBuilder
import Derived.Shelf.Strings.Trim
import Derived.Shelf.Strconv.Itoa4
import Derived.Shelf.Hex.More
import Derived.Test.YtaolhgjnlmaooaaDoorK3
import Derived.Lib.TrimByte
set_option linter.unusedSimpArgs false
set_option linter.unusedVariables false
namespace Go.Proofs.YtaolhgjnlmaooaaDoor
open Go Go.IW
/-- loop.example/g00003/laws.FnExactShowSegment -/
def c3 : CC :=
 (.seq (.reg [
   ⟨(some 1), none, .x (.box 25 12 (.t 0))⟩,
   ⟨(some 2), none, .f (.mv (.c (.bool false)))⟩])
 (.seq (.reg [
   ⟨(some 3), none, .f (.mv (.c (.int .i64 1048576)))⟩])
 (.seq (.reg [
   ⟨(some 9), none, .f (.ldA 12 (.t 1))⟩,
   ⟨(some 10), none, .f (.mv (.t 3))⟩,
   ⟨(some 11), none, .x (.call 6 [(.t 9), (.t 10)])⟩,
   ⟨(some 3), none, .f (.mv (.t 11))⟩])
 (.seq (.seq (.reg [
   ⟨(some 12), none, .f (.mv (.t 3))⟩,
   ⟨(some 13), none, .f (.bin .lss (.t 12) (.c (.int .i64 0)))⟩])
 (.cond (.t 13)
  (.seq (.reg [
    ⟨(some 2), none, .f (.mv (.c (.bool true)))⟩])
  .ret)
  .skip))
 (.seq (.reg [
   ⟨(some 15), none, .f (.ldA 12 (.t 1))⟩,
   ⟨(some 16), none, .x (.call 8 [(.t 15)])⟩,
   ⟨(some 17), none, .x (.call 7 [(.t 16)])⟩,
   ⟨(some 14), none, .f (.mv (.t 17))⟩,
   ⟨(some 18), none, .f (.ext 0 (.t 14))⟩,
   ⟨(some 19), none, .f (.ext 1 (.t 14))⟩,
   ⟨(some 4), none, .f (.mv (.t 18))⟩,
   ⟨(some 5), none, .f (.mv (.t 19))⟩])
 (.seq (.reg [
   ⟨(some 20), none, .f (.ldA 12 (.t 1))⟩,
   ⟨(some 21), none, .x (.call 8 [(.t 20)])⟩,
   ⟨(some 6), none, .x (.zero 31 12 [(.int .i64 0), (.int .i64 0), (.int .i64 0), (.int .i64 0), (.int .i64 0), (.int .i64 0), (.int .i64 0), (.bool false), (.int .i64 0), (.bool false), .nilslice, .nilslice])⟩,
   ⟨none, none, .x (.st 12 (.t 6) (.t 21))⟩])
 (.seq (.reg [
   ⟨(some 23), none, .f (.ldA 12 (.t 6))⟩,
   ⟨(some 24), none, .x (.call 9 [(.t 23)])⟩,
   ⟨(some 22), none, .f (.mv (.t 24))⟩,
   ⟨(some 25), none, .f (.ext 0 (.t 22))⟩,
   ⟨(some 26), none, .f (.ext 1 (.t 22))⟩,
   ⟨(some 7), none, .f (.mv (.t 25))⟩,
   ⟨(some 8), none, .f (.mv (.t 26))⟩])
 (.seq (.seq (.reg [
   ⟨(some 27), none, .f (.mv (.t 7))⟩,
   ⟨(some 28), none, .f (.mv (.t 4))⟩,
   ⟨(some 29), none, .f (.bin .neq (.t 27) (.t 28))⟩,
   ⟨(some 30), none, .f (.mv (.t 29))⟩,
   ⟨(some 31), (some (30, false)), .f (.mv (.t 8))⟩,
   ⟨(some 32), (some (30, false)), .f (.mv (.t 5))⟩,
   ⟨(some 33), (some (30, false)), .f (.bin .neq (.t 31) (.t 32))⟩,
   ⟨(some 34), none, .f (.pick (.t 30) (.c (.bool true)) (.t 33))⟩])
 (.cond (.t 34)
  (.seq (.reg [
    ⟨(some 2), none, .f (.mv (.c (.bool false)))⟩])
  .ret)
  .skip))
 (.seq (.seq (.dreg [
   ⟨(some 35), none, .f (.ldA 12 (.t 6))⟩,
   ⟨(some 36), none, .f (.ldA 12 (.t 1))⟩,
   ⟨(some 37), none, .x (.call 8 [(.t 36)])⟩,
   ⟨(some 38), none, .x (.call 10 [(.t 35), (.t 37)])⟩,
   ⟨(some 39), none, .f (.un .not (.t 38))⟩]
   [false, false, true, true, false] [[], [], [1], [0, 2, 1], [3, 0, 2, 1]] [0, 1, 2, 3, 4])
 (.cond (.t 39)
  (.seq (.reg [
    ⟨(some 2), none, .f (.mv (.c (.bool false)))⟩])
  .ret)
  .skip))
 (.seq (.reg [
   ⟨(some 2), none, .f (.mv (.c (.bool true)))⟩])
 .ret))))))))))
/-- loop.example/g00003/laws.FnExactShowReply -/
def c4 : CC :=
 (.seq (.reg [
   ⟨(some 1), none, .x (.box 37 3 (.t 0))⟩,
   ⟨(some 2), none, .f (.mv (.c (.bool false)))⟩])
 (.seq (.reg [
   ⟨(some 3), none, .f (.mv (.c (.int .i64 1048576)))⟩])
 (.seq (.reg [
   ⟨(some 14), none, .f (.ldA 3 (.t 1))⟩,
   ⟨(some 15), none, .f (.mv (.t 3))⟩,
   ⟨(some 16), none, .x (.call 11 [(.t 14), (.t 15)])⟩,
   ⟨(some 3), none, .f (.mv (.t 16))⟩])
 (.seq (.seq (.reg [
   ⟨(some 17), none, .f (.mv (.t 3))⟩,
   ⟨(some 18), none, .f (.bin .lss (.t 17) (.c (.int .i64 0)))⟩])
 (.cond (.t 18)
  (.seq (.reg [
    ⟨(some 2), none, .f (.mv (.c (.bool true)))⟩])
  .ret)
  .skip))
 (.seq (.reg [
   ⟨(some 20), none, .f (.ldA 3 (.t 1))⟩,
   ⟨(some 21), none, .x (.call 13 [(.t 20)])⟩,
   ⟨(some 22), none, .x (.call 12 [(.t 21)])⟩,
   ⟨(some 19), none, .f (.mv (.t 22))⟩,
   ⟨(some 23), none, .f (.ext 0 (.t 19))⟩,
   ⟨(some 24), none, .f (.ext 1 (.t 19))⟩,
   ⟨(some 4), none, .f (.mv (.t 23))⟩,
   ⟨(some 5), none, .f (.mv (.t 24))⟩])
 (.seq (.reg [
   ⟨(some 25), none, .f (.ldA 3 (.t 1))⟩,
   ⟨(some 26), none, .x (.call 13 [(.t 25)])⟩,
   ⟨(some 6), none, .x (.zero 43 3 [(.int .i64 0), .nilslice, .nilslice])⟩,
   ⟨none, none, .x (.st 3 (.t 6) (.t 26))⟩])
 (.seq (.reg [
   ⟨(some 28), none, .f (.ldA 3 (.t 6))⟩,
   ⟨(some 29), none, .x (.call 14 [(.t 28)])⟩,
   ⟨(some 27), none, .f (.mv (.t 29))⟩,
   ⟨(some 30), none, .f (.ext 0 (.t 27))⟩,
   ⟨(some 31), none, .f (.ext 1 (.t 27))⟩,
   ⟨(some 7), none, .f (.mv (.t 30))⟩,
   ⟨(some 8), none, .f (.mv (.t 31))⟩])
 (.seq (.seq (.reg [
   ⟨(some 32), none, .f (.mv (.t 7))⟩,
   ⟨(some 33), none, .f (.mv (.t 4))⟩,
   ⟨(some 34), none, .x (.call 15 [(.t 32), (.t 33)])⟩,
   ⟨(some 35), none, .f (.un .not (.t 34))⟩,
   ⟨(some 36), none, .f (.mv (.t 35))⟩,
   ⟨(some 37), (some (36, false)), .f (.mv (.t 8))⟩,
   ⟨(some 38), (some (36, false)), .f (.mv (.t 5))⟩,
   ⟨(some 39), (some (36, false)), .f (.bin .neq (.t 37) (.t 38))⟩,
   ⟨(some 40), none, .f (.pick (.t 36) (.c (.bool true)) (.t 39))⟩])
 (.cond (.t 40)
  (.seq (.reg [
    ⟨(some 2), none, .f (.mv (.c (.bool false)))⟩])
  .ret)
  .skip))
 (.seq (.seq (.dreg [
   ⟨(some 41), none, .f (.ldA 3 (.t 6))⟩,
   ⟨(some 42), none, .f (.ldA 3 (.t 1))⟩,
   ⟨(some 43), none, .x (.call 13 [(.t 42)])⟩,
   ⟨(some 44), none, .x (.call 16 [(.t 41), (.t 43)])⟩,
   ⟨(some 45), none, .f (.un .not (.t 44))⟩]
   [false, false, true, true, false] [[], [], [1], [0, 2, 1], [3, 0, 2, 1]] [0, 1, 2, 3, 4])
 (.cond (.t 45)
  (.seq (.reg [
    ⟨(some 2), none, .f (.mv (.c (.bool false)))⟩])
  .ret)
  .skip))
 (.seq (.reg [
   ⟨(some 9), none, .f (.mv (.c (.int .i64 1)))⟩])
 (.seq (.reg [
   ⟨(some 46), none, .f (.ldA 3 (.t 6))⟩,
   ⟨(some 47), none, .f (.mv (.t 9))⟩,
   ⟨(some 48), none, .x (.call 17 [(.t 46), (.t 47)])⟩,
   ⟨(some 9), none, .f (.mv (.t 48))⟩])
 (.seq (.seq (.reg [
   ⟨(some 49), none, .f (.mv (.t 9))⟩,
   ⟨(some 50), none, .f (.bin .lss (.t 49) (.c (.int .i64 0)))⟩,
   ⟨(some 51), none, .f (.mv (.t 50))⟩,
   ⟨(some 52), (some (51, false)), .f (.mv (.t 7))⟩,
   ⟨(some 53), (some (51, false)), .f (.mv (.t 4))⟩,
   ⟨(some 54), (some (51, false)), .x (.call 15 [(.t 52), (.t 53)])⟩,
   ⟨(some 55), (some (51, false)), .f (.un .not (.t 54))⟩,
   ⟨(some 56), none, .f (.pick (.t 51) (.c (.bool true)) (.t 55))⟩,
   ⟨(some 57), none, .f (.mv (.t 56))⟩,
   ⟨(some 58), (some (57, false)), .f (.mv (.t 8))⟩,
   ⟨(some 59), (some (57, false)), .f (.mv (.t 5))⟩,
   ⟨(some 60), (some (57, false)), .f (.bin .neq (.t 58) (.t 59))⟩,
   ⟨(some 61), none, .f (.pick (.t 57) (.c (.bool true)) (.t 60))⟩])
 (.cond (.t 61)
  (.seq (.reg [
    ⟨(some 2), none, .f (.mv (.c (.bool false)))⟩])
  .ret)
  .skip))
 (.seq (.reg [
   ⟨(some 10), none, .f (.mv (.c (.int .i64 1)))⟩])
 (.seq (.reg [
   ⟨(some 62), none, .f (.mv (.t 7))⟩,
   ⟨(some 63), none, .f (.mv (.t 10))⟩,
   ⟨(some 64), none, .x (.call 18 [(.t 62), (.t 63)])⟩,
   ⟨(some 10), none, .f (.mv (.t 64))⟩])
 (.seq (.reg [
   ⟨(some 11), none, .f (.mv (.c (.int .i64 1)))⟩])
 (.seq (.reg [
   ⟨(some 65), none, .f (.mv (.t 7))⟩,
   ⟨(some 66), none, .f (.mv (.t 11))⟩,
   ⟨(some 67), none, .x (.call 19 [(.t 65), (.t 66)])⟩,
   ⟨(some 11), none, .f (.mv (.t 67))⟩])
 (.seq (.seq (.reg [
   ⟨(some 68), none, .f (.mv (.t 11))⟩,
   ⟨(some 69), none, .f (.bin .lss (.t 68) (.c (.int .i64 0)))⟩])
 (.cond (.t 69)
  (.seq (.reg [
    ⟨(some 2), none, .f (.mv (.c (.bool false)))⟩])
  .ret)
  .skip))
 (.seq (.seq (.reg [
   ⟨(some 70), none, .f (.mv (.t 11))⟩,
   ⟨(some 71), none, .f (.mv (.t 10))⟩,
   ⟨(some 72), none, .f (.bin .neq (.t 70) (.t 71))⟩])
 (.cond (.t 72)
  (.seq (.reg [
    ⟨(some 2), none, .f (.mv (.c (.bool false)))⟩])
  .ret)
  .skip))
 (.seq (.reg [
   ⟨(some 74), none, .f (.ldA 3 (.t 1))⟩,
   ⟨(some 75), none, .x (.call 13 [(.t 74)])⟩,
   ⟨(some 76), none, .x (.call 14 [(.t 75)])⟩,
   ⟨(some 73), none, .f (.mv (.t 76))⟩,
   ⟨(some 77), none, .f (.ext 0 (.t 73))⟩,
   ⟨(some 78), none, .f (.ext 1 (.t 73))⟩,
   ⟨(some 12), none, .f (.mv (.t 77))⟩,
   ⟨(some 13), none, .f (.mv (.t 78))⟩])
 (.seq (.seq (.reg [
   ⟨(some 79), none, .f (.mv (.t 12))⟩,
   ⟨(some 80), none, .f (.mv (.t 4))⟩,
   ⟨(some 81), none, .x (.call 15 [(.t 79), (.t 80)])⟩,
   ⟨(some 82), none, .f (.un .not (.t 81))⟩,
   ⟨(some 83), none, .f (.mv (.t 82))⟩,
   ⟨(some 84), (some (83, false)), .f (.mv (.t 13))⟩,
   ⟨(some 85), (some (83, false)), .f (.mv (.t 5))⟩,
   ⟨(some 86), (some (83, false)), .f (.bin .neq (.t 84) (.t 85))⟩,
   ⟨(some 87), none, .f (.pick (.t 83) (.c (.bool true)) (.t 86))⟩])
 (.cond (.t 87)
  (.seq (.reg [
    ⟨(some 2), none, .f (.mv (.c (.bool false)))⟩])
  .ret)
  .skip))
 (.seq (.reg [
   ⟨(some 11), none, .f (.mv (.c (.int .i64 1)))⟩])
 (.seq (.reg [
   ⟨(some 88), none, .f (.mv (.t 7))⟩,
   ⟨(some 89), none, .f (.mv (.t 11))⟩,
   ⟨(some 90), none, .x (.call 19 [(.t 88), (.t 89)])⟩,
   ⟨(some 11), none, .f (.mv (.t 90))⟩])
 (.seq (.seq (.reg [
   ⟨(some 91), none, .f (.mv (.t 11))⟩,
   ⟨(some 92), none, .f (.bin .lss (.t 91) (.c (.int .i64 0)))⟩])
 (.cond (.t 92)
  (.seq (.reg [
    ⟨(some 2), none, .f (.mv (.c (.bool false)))⟩])
  .ret)
  .skip))
 (.seq (.seq (.reg [
   ⟨(some 93), none, .f (.mv (.t 11))⟩,
   ⟨(some 94), none, .f (.mv (.t 10))⟩,
   ⟨(some 95), none, .f (.bin .neq (.t 93) (.t 94))⟩])
 (.cond (.t 95)
  (.seq (.reg [
    ⟨(some 2), none, .f (.mv (.c (.bool false)))⟩])
  .ret)
  .skip))
 (.seq (.reg [
   ⟨(some 2), none, .f (.mv (.c (.bool true)))⟩])
 .ret)))))))))))))))))))))))))
/-- loop.example/g00003/laws.FnExactShowRequest -/
def c5 : CC :=
 (.seq (.reg [
   ⟨(some 1), none, .x (.box 51 4 (.t 0))⟩,
   ⟨(some 2), none, .f (.mv (.c (.bool false)))⟩])
 (.seq (.reg [
   ⟨(some 3), none, .f (.mv (.c (.int .i64 1048576)))⟩])
 (.seq (.reg [
   ⟨(some 14), none, .f (.ldA 4 (.t 1))⟩,
   ⟨(some 15), none, .f (.mv (.t 3))⟩,
   ⟨(some 16), none, .x (.call 20 [(.t 14), (.t 15)])⟩,
   ⟨(some 3), none, .f (.mv (.t 16))⟩])
 (.seq (.seq (.reg [
   ⟨(some 17), none, .f (.mv (.t 3))⟩,
   ⟨(some 18), none, .f (.bin .lss (.t 17) (.c (.int .i64 0)))⟩])
 (.cond (.t 18)
  (.seq (.reg [
    ⟨(some 2), none, .f (.mv (.c (.bool true)))⟩])
  .ret)
  .skip))
 (.seq (.reg [
   ⟨(some 20), none, .f (.ldA 4 (.t 1))⟩,
   ⟨(some 21), none, .x (.call 22 [(.t 20)])⟩,
   ⟨(some 22), none, .x (.call 21 [(.t 21)])⟩,
   ⟨(some 19), none, .f (.mv (.t 22))⟩,
   ⟨(some 23), none, .f (.ext 0 (.t 19))⟩,
   ⟨(some 24), none, .f (.ext 1 (.t 19))⟩,
   ⟨(some 4), none, .f (.mv (.t 23))⟩,
   ⟨(some 5), none, .f (.mv (.t 24))⟩])
 (.seq (.reg [
   ⟨(some 25), none, .f (.ldA 4 (.t 1))⟩,
   ⟨(some 26), none, .x (.call 22 [(.t 25)])⟩,
   ⟨(some 6), none, .x (.zero 55 4 [(.str []), (.str []), .nilslice, .nilslice])⟩,
   ⟨none, none, .x (.st 4 (.t 6) (.t 26))⟩])
 (.seq (.reg [
   ⟨(some 28), none, .f (.ldA 4 (.t 6))⟩,
   ⟨(some 29), none, .x (.call 23 [(.t 28)])⟩,
   ⟨(some 27), none, .f (.mv (.t 29))⟩,
   ⟨(some 30), none, .f (.ext 0 (.t 27))⟩,
   ⟨(some 31), none, .f (.ext 1 (.t 27))⟩,
   ⟨(some 7), none, .f (.mv (.t 30))⟩,
   ⟨(some 8), none, .f (.mv (.t 31))⟩])
 (.seq (.seq (.reg [
   ⟨(some 32), none, .f (.mv (.t 7))⟩,
   ⟨(some 33), none, .f (.mv (.t 4))⟩,
   ⟨(some 34), none, .x (.call 15 [(.t 32), (.t 33)])⟩,
   ⟨(some 35), none, .f (.un .not (.t 34))⟩,
   ⟨(some 36), none, .f (.mv (.t 35))⟩,
   ⟨(some 37), (some (36, false)), .f (.mv (.t 8))⟩,
   ⟨(some 38), (some (36, false)), .f (.mv (.t 5))⟩,
   ⟨(some 39), (some (36, false)), .f (.bin .neq (.t 37) (.t 38))⟩,
   ⟨(some 40), none, .f (.pick (.t 36) (.c (.bool true)) (.t 39))⟩])
 (.cond (.t 40)
  (.seq (.reg [
    ⟨(some 2), none, .f (.mv (.c (.bool false)))⟩])
  .ret)
  .skip))
 (.seq (.seq (.dreg [
   ⟨(some 41), none, .f (.ldA 4 (.t 6))⟩,
   ⟨(some 42), none, .f (.ldA 4 (.t 1))⟩,
   ⟨(some 43), none, .x (.call 22 [(.t 42)])⟩,
   ⟨(some 44), none, .x (.call 24 [(.t 41), (.t 43)])⟩,
   ⟨(some 45), none, .f (.un .not (.t 44))⟩]
   [false, false, true, true, false] [[], [], [1], [0, 2, 1], [3, 0, 2, 1]] [0, 1, 2, 3, 4])
 (.cond (.t 45)
  (.seq (.reg [
    ⟨(some 2), none, .f (.mv (.c (.bool false)))⟩])
  .ret)
  .skip))
 (.seq (.reg [
   ⟨(some 9), none, .f (.mv (.c (.int .i64 1)))⟩])
 (.seq (.reg [
   ⟨(some 46), none, .f (.ldA 4 (.t 6))⟩,
   ⟨(some 47), none, .f (.mv (.t 9))⟩,
   ⟨(some 48), none, .x (.call 25 [(.t 46), (.t 47)])⟩,
   ⟨(some 9), none, .f (.mv (.t 48))⟩])
 (.seq (.seq (.reg [
   ⟨(some 49), none, .f (.mv (.t 9))⟩,
   ⟨(some 50), none, .f (.bin .lss (.t 49) (.c (.int .i64 0)))⟩,
   ⟨(some 51), none, .f (.mv (.t 50))⟩,
   ⟨(some 52), (some (51, false)), .f (.mv (.t 7))⟩,
   ⟨(some 53), (some (51, false)), .f (.mv (.t 4))⟩,
   ⟨(some 54), (some (51, false)), .x (.call 15 [(.t 52), (.t 53)])⟩,
   ⟨(some 55), (some (51, false)), .f (.un .not (.t 54))⟩,
   ⟨(some 56), none, .f (.pick (.t 51) (.c (.bool true)) (.t 55))⟩,
   ⟨(some 57), none, .f (.mv (.t 56))⟩,
   ⟨(some 58), (some (57, false)), .f (.mv (.t 8))⟩,
   ⟨(some 59), (some (57, false)), .f (.mv (.t 5))⟩,
   ⟨(some 60), (some (57, false)), .f (.bin .neq (.t 58) (.t 59))⟩,
   ⟨(some 61), none, .f (.pick (.t 57) (.c (.bool true)) (.t 60))⟩])
 (.cond (.t 61)
  (.seq (.reg [
    ⟨(some 2), none, .f (.mv (.c (.bool false)))⟩])
  .ret)
  .skip))
 (.seq (.reg [
   ⟨(some 10), none, .f (.mv (.c (.int .i64 1)))⟩])
 (.seq (.reg [
   ⟨(some 62), none, .f (.mv (.t 7))⟩,
   ⟨(some 63), none, .f (.mv (.t 10))⟩,
   ⟨(some 64), none, .x (.call 18 [(.t 62), (.t 63)])⟩,
   ⟨(some 10), none, .f (.mv (.t 64))⟩])
 (.seq (.reg [
   ⟨(some 11), none, .f (.mv (.c (.int .i64 1)))⟩])
 (.seq (.reg [
   ⟨(some 65), none, .f (.mv (.t 7))⟩,
   ⟨(some 66), none, .f (.mv (.t 11))⟩,
   ⟨(some 67), none, .x (.call 19 [(.t 65), (.t 66)])⟩,
   ⟨(some 11), none, .f (.mv (.t 67))⟩])
 (.seq (.seq (.reg [
   ⟨(some 68), none, .f (.mv (.t 11))⟩,
   ⟨(some 69), none, .f (.bin .lss (.t 68) (.c (.int .i64 0)))⟩])
 (.cond (.t 69)
  (.seq (.reg [
    ⟨(some 2), none, .f (.mv (.c (.bool false)))⟩])
  .ret)
  .skip))
 (.seq (.seq (.reg [
   ⟨(some 70), none, .f (.mv (.t 11))⟩,
   ⟨(some 71), none, .f (.mv (.t 10))⟩,
   ⟨(some 72), none, .f (.bin .neq (.t 70) (.t 71))⟩])
 (.cond (.t 72)
  (.seq (.reg [
    ⟨(some 2), none, .f (.mv (.c (.bool false)))⟩])
  .ret)
  .skip))
 (.seq (.reg [
   ⟨(some 74), none, .f (.ldA 4 (.t 1))⟩,
   ⟨(some 75), none, .x (.call 22 [(.t 74)])⟩,
   ⟨(some 76), none, .x (.call 23 [(.t 75)])⟩,
   ⟨(some 73), none, .f (.mv (.t 76))⟩,
   ⟨(some 77), none, .f (.ext 0 (.t 73))⟩,
   ⟨(some 78), none, .f (.ext 1 (.t 73))⟩,
   ⟨(some 12), none, .f (.mv (.t 77))⟩,
   ⟨(some 13), none, .f (.mv (.t 78))⟩])
 (.seq (.seq (.reg [
   ⟨(some 79), none, .f (.mv (.t 12))⟩,
   ⟨(some 80), none, .f (.mv (.t 4))⟩,
   ⟨(some 81), none, .x (.call 15 [(.t 79), (.t 80)])⟩,
   ⟨(some 82), none, .f (.un .not (.t 81))⟩,
   ⟨(some 83), none, .f (.mv (.t 82))⟩,
   ⟨(some 84), (some (83, false)), .f (.mv (.t 13))⟩,
   ⟨(some 85), (some (83, false)), .f (.mv (.t 5))⟩,
   ⟨(some 86), (some (83, false)), .f (.bin .neq (.t 84) (.t 85))⟩,
   ⟨(some 87), none, .f (.pick (.t 83) (.c (.bool true)) (.t 86))⟩])
 (.cond (.t 87)
  (.seq (.reg [
    ⟨(some 2), none, .f (.mv (.c (.bool false)))⟩])
  .ret)
  .skip))
 (.seq (.reg [
   ⟨(some 11), none, .f (.mv (.c (.int .i64 1)))⟩])
 (.seq (.reg [
   ⟨(some 88), none, .f (.mv (.t 7))⟩,
   ⟨(some 89), none, .f (.mv (.t 11))⟩,
   ⟨(some 90), none, .x (.call 19 [(.t 88), (.t 89)])⟩,
   ⟨(some 11), none, .f (.mv (.t 90))⟩])
 (.seq (.seq (.reg [
   ⟨(some 91), none, .f (.mv (.t 11))⟩,
   ⟨(some 92), none, .f (.bin .lss (.t 91) (.c (.int .i64 0)))⟩])
 (.cond (.t 92)
  (.seq (.reg [
    ⟨(some 2), none, .f (.mv (.c (.bool false)))⟩])
  .ret)
  .skip))
 (.seq (.seq (.reg [
   ⟨(some 93), none, .f (.mv (.t 11))⟩,
   ⟨(some 94), none, .f (.mv (.t 10))⟩,
   ⟨(some 95), none, .f (.bin .neq (.t 93) (.t 94))⟩])
 (.cond (.t 95)
  (.seq (.reg [
    ⟨(some 2), none, .f (.mv (.c (.bool false)))⟩])
  .ret)
  .skip))
 (.seq (.reg [
   ⟨(some 2), none, .f (.mv (.c (.bool true)))⟩])
 .ret)))))))))))))))))))))))))
theorem ok5 : fnComp Tryd.prog 5 = some (96, c5, [(.mv (.t 2))]) := by kernel_rfl

/-- loop.example/g00003/spec.ShowRequest -/
def c21 : CC :=
 (.seq (.reg [
   ⟨(some 1), none, .x (.box 55 4 (.t 0))⟩,
   ⟨(some 2), none, .f (.mv (.c .nilslice))⟩,
   ⟨(some 3), none, .f (.mv (.c (.int .i64 0)))⟩])
 (.seq (.seq (.reg [
   ⟨(some 4), none, .f (.ldA 4 (.t 1))⟩,
   ⟨(some 5), none, .x (.call 48 [(.t 4)])⟩,
   ⟨(some 6), none, .f (.un .not (.t 5))⟩])
 (.cond (.t 6)
  (.seq (.reg [
    ⟨(some 2), none, .f (.mv (.c .nilslice))⟩,
    ⟨(some 3), none, .f (.mv (.c (.int .i64 1)))⟩])
  .ret)
  .skip))
 (.seq (.reg [
   ⟨(some 7), none, .f (.fadr 0 (.t 1))⟩,
   ⟨(some 8), none, .f (.ld (.t 7))⟩,
   ⟨(some 9), none, .f (.bin .add (.t 8) (.c (.str [32])))⟩,
   ⟨(some 10), none, .f (.fadr 1 (.t 1))⟩,
   ⟨(some 11), none, .f (.ld (.t 10))⟩,
   ⟨(some 12), none, .f (.bin .add (.t 9) (.t 11))⟩,
   ⟨(some 13), none, .f (.fadr 2 (.t 1))⟩,
   ⟨(some 14), none, .f (.ld (.t 13))⟩,
   ⟨(some 15), none, .f (.fadr 3 (.t 1))⟩,
   ⟨(some 16), none, .f (.ld (.t 15))⟩,
   ⟨(some 17), none, .x (.call 42 [(.t 12), (.t 14), (.t 16)])⟩,
   ⟨(some 2), none, .f (.mv (.t 17))⟩,
   ⟨(some 3), none, .f (.mv (.c (.int .i64 0)))⟩])
 .ret)))
theorem ok21 : fnComp Tryd.prog 21 = some (18, c21, [(.mv (.t 2)), (.mv (.t 3))]) := by kernel_rfl

/-- loop.example/g00003/impl.ShowRequest -/
def c23 : CC :=
 (.seq (.reg [
   ⟨(some 1), none, .x (.box 55 4 (.t 0))⟩,
   ⟨(some 2), none, .f (.mv (.c .nilslice))⟩,
   ⟨(some 3), none, .f (.mv (.c (.int .i64 0)))⟩])
 (.seq (.seq (.reg [
   ⟨(some 4), none, .f (.ldA 4 (.t 1))⟩,
   ⟨(some 5), none, .x (.call 49 [(.t 4)])⟩,
   ⟨(some 6), none, .f (.un .not (.t 5))⟩])
 (.cond (.t 6)
  (.seq (.reg [
    ⟨(some 2), none, .f (.mv (.c .nilslice))⟩,
    ⟨(some 3), none, .f (.mv (.c (.int .i64 1)))⟩])
  .ret)
  .skip))
 (.seq (.reg [
   ⟨(some 7), none, .f (.fadr 0 (.t 1))⟩,
   ⟨(some 8), none, .f (.ld (.t 7))⟩,
   ⟨(some 9), none, .f (.bin .add (.t 8) (.c (.str [32])))⟩,
   ⟨(some 10), none, .f (.fadr 1 (.t 1))⟩,
   ⟨(some 11), none, .f (.ld (.t 10))⟩,
   ⟨(some 12), none, .f (.bin .add (.t 9) (.t 11))⟩,
   ⟨(some 13), none, .f (.fadr 2 (.t 1))⟩,
   ⟨(some 14), none, .f (.ld (.t 13))⟩,
   ⟨(some 15), none, .f (.fadr 3 (.t 1))⟩,
   ⟨(some 16), none, .f (.ld (.t 15))⟩,
   ⟨(some 17), none, .x (.call 45 [(.t 12), (.t 14), (.t 16)])⟩,
   ⟨(some 2), none, .f (.mv (.t 17))⟩,
   ⟨(some 3), none, .f (.mv (.c (.int .i64 0)))⟩])
 .ret)))
theorem ok23 : fnComp Tryd.prog 23 = some (18, c23, [(.mv (.t 2)), (.mv (.t 3))]) := by kernel_rfl

/-- loop.example/g00003/spec.l02Dec -/
def c29 : CC :=
 (.seq (.reg [
   ⟨(some 2), none, .f (.mv (.c (.str [])))⟩])
 (.seq (.seq (.reg [
   ⟨(some 3), none, .f (.mv (.t 0))⟩,
   ⟨(some 4), none, .f (.bin .lss (.t 3) (.c (.int .i64 10)))⟩])
 (.cond (.t 4)
  (.seq (.reg [
    ⟨(some 5), none, .f (.mv (.t 0))⟩,
    ⟨(some 6), none, .f (.bin .add (.c (.int .i64 48)) (.t 5))⟩,
    ⟨(some 7), none, .f (.cvI .u8 (.t 6))⟩,
    ⟨(some 8), none, .x (.bslice 5 1 [(.int .u8 0)] 1 [(0, (.t 7))])⟩,
    ⟨(some 9), none, .f (.b2s (.t 8))⟩,
    ⟨(some 2), none, .f (.mv (.t 9))⟩])
  .ret)
  .skip))
 (.seq (.treg [
   ⟨(some 10), none, .f (.mv (.t 0))⟩,
   ⟨(some 11), none, .f (.bin .quo (.t 10) (.c (.int .i64 10)))⟩,
   ⟨(some 12), none, .x (.call 29 [(.t 11)])⟩,
   ⟨(some 13), none, .f (.mv (.t 0))⟩,
   ⟨(some 14), none, .f (.bin .rem (.t 13) (.c (.int .i64 10)))⟩,
   ⟨(some 15), none, .f (.bin .add (.c (.int .i64 48)) (.t 14))⟩,
   ⟨(some 16), none, .f (.cvI .u8 (.t 15))⟩,
   ⟨(some 17), none, .x (.bslice 5 1 [(.int .u8 0)] 1 [(0, (.t 16))])⟩,
   ⟨(some 18), none, .f (.b2s (.t 17))⟩,
   ⟨(some 19), none, .f (.bin .add (.t 12) (.t 18))⟩,
   ⟨(some 2), none, .f (.mv (.t 19))⟩]
   [[], [0], [1, 0], [], [3], [4, 3], [5, 4, 3], [6, 5, 4, 3], [7, 6, 5, 4, 3], [2, 1, 0, 8, 7, 6, 5, 4, 3], [9, 2, 1, 0, 8, 7, 6, 5, 4, 3]] (.fl 0 (.fl 1 (.fl 3 (.fl 4 (.fl 5 (.fl 6 (.br 2 (.br 7 (.fl 8 (.fl 9 (.fl 10 .fin))) .stop) (.br 7 (.fl 8 (.br 2 (.fl 9 (.fl 10 .fin)) .stop)) .stop)))))))))
 .ret)))
theorem ok29 : fnComp Tryd.prog 29 = some (20, c29, [(.mv (.t 2))]) := by kernel_rfl

/-- loop.example/g00003/impl.num -/
def c36 : CC :=
 (.seq (.reg [
   ⟨(some 2), none, .f (.mv (.c (.str [])))⟩])
 (.seq (.reg [
   ⟨(some 3), none, .f (.mv (.t 0))⟩,
   ⟨(some 4), none, .x (.call 56 [(.t 3), (.c (.int .i64 10))])⟩,
   ⟨(some 2), none, .f (.mv (.t 4))⟩])
 .ret))
theorem ok36 : fnComp Tryd.prog 36 = some (5, c36, [(.mv (.t 2))]) := by kernel_rfl

/-- loop.example/g00003/spec.l20Message -/
def c42 : CC :=
 (.seq (.reg [
   ⟨(some 6), none, .f (.mv (.c .nilslice))⟩])
 (.seq (.reg [
   ⟨(some 9), none, .f (.mv (.t 0))⟩,
   ⟨(some 10), none, .f (.bin .add (.t 9) (.c (.str [10])))⟩,
   ⟨(some 7), none, .f (.mv (.t 10))⟩])
 (.seq (.seq (.reg [
   ⟨(some 8), none, .f (.mv (.c (.int .i64 0)))⟩])
 (.block 0 (.loop (.seq (.seq (.reg [
     ⟨(some 11), none, .f (.mv (.t 8))⟩,
     ⟨(some 12), none, .f (.mv (.t 1))⟩,
     ⟨(some 13), none, .f (.len (.t 12))⟩,
     ⟨(some 14), none, .f (.bin .lss (.t 11) (.t 13))⟩])
   (.cond (.t 14)
    .skip
    (.exit 0)))
   (.seq (.block 1 (.dreg [
      ⟨(some 17), none, .f (.mv (.t 7))⟩,
      ⟨(some 18), none, .f (.mv (.t 1))⟩,
      ⟨(some 19), none, .f (.mv (.t 8))⟩,
      ⟨(some 20), none, .f (.iadr 2 (.t 18) (.t 19))⟩,
      ⟨(some 21), none, .f (.fadr 0 (.t 20))⟩,
      ⟨(some 22), none, .f (.ld (.t 21))⟩,
      ⟨(some 23), none, .f (.bin .add (.t 17) (.t 22))⟩,
      ⟨(some 24), none, .f (.bin .add (.t 23) (.c (.str [58, 32])))⟩,
      ⟨(some 25), none, .f (.mv (.t 1))⟩,
      ⟨(some 26), none, .f (.mv (.t 8))⟩,
      ⟨(some 27), none, .f (.iadr 2 (.t 25) (.t 26))⟩,
      ⟨(some 28), none, .f (.fadr 1 (.t 27))⟩,
      ⟨(some 29), none, .f (.ld (.t 28))⟩,
      ⟨(some 30), none, .f (.bin .add (.t 24) (.t 29))⟩,
      ⟨(some 31), none, .f (.bin .add (.t 30) (.c (.str [10])))⟩,
      ⟨(some 7), none, .f (.mv (.t 31))⟩]
      [false, false, false, false, false, false, false, false, false, false, false, false, false, false, false, true] [[], [], [], [1, 2], [3, 1, 2], [4, 3, 1, 2], [0, 5, 4, 3, 1, 2], [6, 0, 5, 4, 3, 1, 2], [], [], [8, 9], [10, 8, 9], [11, 10, 8, 9], [7, 6, 0, 5, 4, 3, 1, 2, 12, 11, 10, 8, 9], [13, 7, 6, 0, 5, 4, 3, 1, 2, 12, 11, 10, 8, 9], [14, 13, 7, 6, 0, 5, 4, 3, 1, 2, 12, 11, 10, 8, 9]] [0, 1, 2, 3, 4, 5, 6, 7, 8, 9, 10, 11, 12, 13, 14, 15]))
   (.reg [
     ⟨(some 15), none, .f (.mv (.t 8))⟩,
     ⟨(some 16), none, .f (.bin .add (.t 15) (.c (.int .i64 1)))⟩,
     ⟨(some 8), none, .f (.mv (.t 16))⟩]))))))
 (.seq (.seq (.reg [
   ⟨(some 32), none, .f (.mv (.t 2))⟩,
   ⟨(some 33), none, .f (.len (.t 32))⟩,
   ⟨(some 34), none, .f (.bin .gtr (.t 33) (.c (.int .i64 0)))⟩])
 (.cond (.t 34)
  (.reg [
    ⟨(some 35), none, .f (.mv (.t 7))⟩,
    ⟨(some 36), none, .f (.bin .add (.t 35) (.c (.str [108, 101, 110, 103, 116, 104, 58, 32])))⟩,
    ⟨(some 37), none, .f (.mv (.t 2))⟩,
    ⟨(some 38), none, .f (.len (.t 37))⟩,
    ⟨(some 39), none, .x (.call 29 [(.t 38)])⟩,
    ⟨(some 40), none, .f (.bin .add (.t 36) (.t 39))⟩,
    ⟨(some 41), none, .f (.bin .add (.t 40) (.c (.str [10])))⟩,
    ⟨(some 7), none, .f (.mv (.t 41))⟩])
  .skip))
 (.seq (.reg [
   ⟨(some 42), none, .f (.mv (.t 7))⟩,
   ⟨(some 43), none, .f (.bin .add (.t 42) (.c (.str [10])))⟩,
   ⟨(some 44), none, .x (.s2b 5 (.t 43))⟩,
   ⟨(some 45), none, .f (.mv (.t 2))⟩,
   ⟨(some 46), none, .x (.call 65 [(.t 44), (.t 45)])⟩,
   ⟨(some 6), none, .f (.mv (.t 46))⟩])
 .ret)))))
theorem ok42 : fnComp Tryd.prog 42 = some (47, c42, [(.mv (.t 6))]) := by kernel_rfl

/-- loop.example/g00003/impl.message -/
def c45 : CC :=
 (.seq (.reg [
   ⟨(some 6), none, .f (.mv (.c .nilslice))⟩])
 (.seq (.reg [
   ⟨(some 10), none, .f (.mv (.t 0))⟩,
   ⟨(some 11), none, .f (.bin .add (.t 10) (.c (.str [10])))⟩,
   ⟨(some 12), none, .x (.s2b 5 (.t 11))⟩,
   ⟨(some 7), none, .f (.mv (.t 12))⟩])
 (.seq (.seq (.reg [
   ⟨(some 13), none, .f (.mv (.t 1))⟩,
   ⟨(some 14), none, .f (.len (.t 13))⟩,
   ⟨(some 15), none, .f (.mv (.c (.int .i64 0)))⟩])
 (.block 0 (.loop (.seq (.reg [
     ⟨(some 16), none, .f (.bin .lss (.t 15) (.t 14))⟩])
   (.seq (.cond (.t 16)
    .skip
    (.exit 0))
   (.seq (.block 1 (.seq (.reg [
      ⟨(some 17), none, .f (.iadr 2 (.t 13) (.t 15))⟩,
      ⟨(some 18), none, .f (.ldA 2 (.t 17))⟩,
      ⟨(some 9), none, .x (.zero 104 2 [(.str []), (.str [])])⟩,
      ⟨none, none, .x (.st 2 (.t 9) (.t 18))⟩])
    (.reg [
      ⟨(some 19), none, .f (.mv (.t 7))⟩,
      ⟨(some 20), none, .f (.fadr 0 (.t 9))⟩,
      ⟨(some 21), none, .f (.ld (.t 20))⟩,
      ⟨(some 22), none, .f (.bin .add (.t 21) (.c (.str [58, 32])))⟩,
      ⟨(some 23), none, .f (.fadr 1 (.t 9))⟩,
      ⟨(some 24), none, .f (.ld (.t 23))⟩,
      ⟨(some 25), none, .f (.bin .add (.t 22) (.t 24))⟩,
      ⟨(some 26), none, .f (.bin .add (.t 25) (.c (.str [10])))⟩,
      ⟨(some 27), none, .x (.appS 5 1 (.t 19) (.t 26))⟩,
      ⟨(some 7), none, .f (.mv (.t 27))⟩])))
   (.reg [
     ⟨(some 28), none, .f (.bin .add (.t 15) (.c (.int .i64 1)))⟩,
     ⟨(some 15), none, .f (.mv (.t 28))⟩])))))))
 (.seq (.seq (.reg [
   ⟨(some 29), none, .f (.mv (.t 2))⟩,
   ⟨(some 30), none, .f (.len (.t 29))⟩,
   ⟨(some 31), none, .f (.bin .gtr (.t 30) (.c (.int .i64 0)))⟩])
 (.cond (.t 31)
  (.reg [
    ⟨(some 32), none, .f (.mv (.t 7))⟩,
    ⟨(some 33), none, .f (.mv (.t 2))⟩,
    ⟨(some 34), none, .f (.len (.t 33))⟩,
    ⟨(some 35), none, .x (.call 36 [(.t 34)])⟩,
    ⟨(some 36), none, .f (.bin .add (.c (.str [108, 101, 110, 103, 116, 104, 58, 32])) (.t 35))⟩,
    ⟨(some 37), none, .f (.bin .add (.t 36) (.c (.str [10])))⟩,
    ⟨(some 38), none, .x (.appS 5 1 (.t 32) (.t 37))⟩,
    ⟨(some 7), none, .f (.mv (.t 38))⟩])
  .skip))
 (.seq (.reg [
   ⟨(some 39), none, .f (.mv (.t 7))⟩,
   ⟨(some 40), none, .x (.bslice 5 1 [(.int .u8 0)] 1 [(0, (.c (.int .u8 10)))])⟩,
   ⟨(some 41), none, .x (.app 5 1 1 (.t 39) (.t 40))⟩,
   ⟨(some 42), none, .f (.mv (.t 2))⟩,
   ⟨(some 43), none, .x (.app 5 1 1 (.t 41) (.t 42))⟩,
   ⟨(some 6), none, .f (.mv (.t 43))⟩])
 .ret)))))
theorem ok45 : fnComp Tryd.prog 45 = some (44, c45, [(.mv (.t 6))]) := by kernel_rfl

/-- loop.example/g00003/spec.l20RequestOK -/
def c48 : CC :=
 (.seq (.reg [
   ⟨(some 1), none, .x (.box 55 4 (.t 0))⟩,
   ⟨(some 2), none, .f (.mv (.c (.bool false)))⟩])
 (.seq (.reg [
   ⟨(some 3), none, .f (.fadr 0 (.t 1))⟩,
   ⟨(some 4), none, .f (.ld (.t 3))⟩,
   ⟨(some 5), none, .x (.call 70 [(.t 4)])⟩,
   ⟨(some 6), none, .f (.mv (.t 5))⟩,
   ⟨(some 7), (some (6, true)), .f (.fadr 1 (.t 1))⟩,
   ⟨(some 8), (some (6, true)), .f (.ld (.t 7))⟩,
   ⟨(some 9), (some (6, true)), .x (.call 71 [(.t 8)])⟩,
   ⟨(some 10), none, .f (.pick (.t 6) (.t 9) (.c (.bool false)))⟩,
   ⟨(some 11), none, .f (.mv (.t 10))⟩,
   ⟨(some 12), (some (11, true)), .f (.fadr 2 (.t 1))⟩,
   ⟨(some 13), (some (11, true)), .f (.ld (.t 12))⟩,
   ⟨(some 14), (some (11, true)), .f (.fadr 3 (.t 1))⟩,
   ⟨(some 15), (some (11, true)), .f (.ld (.t 14))⟩,
   ⟨(some 16), (some (11, true)), .x (.call 64 [(.t 13), (.t 15)])⟩,
   ⟨(some 17), none, .f (.pick (.t 11) (.t 16) (.c (.bool false)))⟩,
   ⟨(some 2), none, .f (.mv (.t 17))⟩])
 .ret))
theorem ok48 : fnComp Tryd.prog 48 = some (18, c48, [(.mv (.t 2))]) := by kernel_rfl

/-- loop.example/g00003/impl.okRequest -/
def c49 : CC :=
 (.seq (.reg [
   ⟨(some 1), none, .x (.box 55 4 (.t 0))⟩,
   ⟨(some 2), none, .f (.mv (.c (.bool false)))⟩])
 (.seq (.reg [
   ⟨(some 4), none, .f (.fadr 0 (.t 1))⟩,
   ⟨(some 5), none, .f (.ld (.t 4))⟩,
   ⟨(some 6), none, .f (.bin .eql (.t 5) (.c (.str [103, 101, 116])))⟩,
   ⟨(some 7), none, .f (.mv (.t 6))⟩,
   ⟨(some 8), (some (7, false)), .f (.fadr 0 (.t 1))⟩,
   ⟨(some 9), (some (7, false)), .f (.ld (.t 8))⟩,
   ⟨(some 10), (some (7, false)), .f (.bin .eql (.t 9) (.c (.str [112, 117, 116])))⟩,
   ⟨(some 11), none, .f (.pick (.t 7) (.c (.bool true)) (.t 10))⟩,
   ⟨(some 12), none, .f (.mv (.t 11))⟩,
   ⟨(some 13), (some (12, false)), .f (.fadr 0 (.t 1))⟩,
   ⟨(some 14), (some (12, false)), .f (.ld (.t 13))⟩,
   ⟨(some 15), (some (12, false)), .f (.bin .eql (.t 14) (.c (.str [100, 101, 108, 101, 116, 101])))⟩,
   ⟨(some 16), none, .f (.pick (.t 12) (.c (.bool true)) (.t 15))⟩,
   ⟨(some 17), none, .f (.mv (.t 16))⟩,
   ⟨(some 18), (some (17, false)), .f (.fadr 0 (.t 1))⟩,
   ⟨(some 19), (some (17, false)), .f (.ld (.t 18))⟩,
   ⟨(some 20), (some (17, false)), .f (.bin .eql (.t 19) (.c (.str [108, 105, 115, 116])))⟩,
   ⟨(some 21), none, .f (.pick (.t 17) (.c (.bool true)) (.t 20))⟩,
   ⟨(some 3), none, .f (.mv (.t 21))⟩])
 (.seq (.reg [
   ⟨(some 22), none, .f (.mv (.t 3))⟩,
   ⟨(some 23), none, .f (.mv (.t 22))⟩,
   ⟨(some 24), (some (23, true)), .f (.fadr 1 (.t 1))⟩,
   ⟨(some 25), (some (23, true)), .f (.ld (.t 24))⟩,
   ⟨(some 26), (some (23, true)), .x (.call 72 [(.t 25)])⟩,
   ⟨(some 27), none, .f (.pick (.t 23) (.t 26) (.c (.bool false)))⟩,
   ⟨(some 28), none, .f (.mv (.t 27))⟩,
   ⟨(some 29), (some (28, true)), .f (.fadr 2 (.t 1))⟩,
   ⟨(some 30), (some (28, true)), .f (.ld (.t 29))⟩,
   ⟨(some 31), (some (28, true)), .f (.fadr 3 (.t 1))⟩,
   ⟨(some 32), (some (28, true)), .f (.ld (.t 31))⟩,
   ⟨(some 33), (some (28, true)), .x (.call 67 [(.t 30), (.t 32)])⟩,
   ⟨(some 34), none, .f (.pick (.t 28) (.t 33) (.c (.bool false)))⟩,
   ⟨(some 2), none, .f (.mv (.t 34))⟩])
 .ret)))
theorem ok49 : fnComp Tryd.prog 49 = some (35, c49, [(.mv (.t 2))]) := by kernel_rfl

/-- loop.example/g00003/spec.l20RestOK -/
def c64 : CC :=
 (.seq (.reg [
   ⟨(some 4), none, .f (.mv (.c (.bool false)))⟩])
 (.seq (.seq (.reg [
   ⟨(some 6), none, .f (.mv (.t 0))⟩,
   ⟨(some 7), none, .f (.len (.t 6))⟩,
   ⟨(some 8), none, .f (.bin .gtr (.t 7) (.c (.int .i64 16)))⟩,
   ⟨(some 9), none, .f (.mv (.t 8))⟩,
   ⟨(some 10), (some (9, false)), .f (.mv (.t 1))⟩,
   ⟨(some 11), (some (9, false)), .f (.len (.t 10))⟩,
   ⟨(some 12), (some (9, false)), .f (.bin .gtr (.t 11) (.c (.int .i64 60000)))⟩,
   ⟨(some 13), none, .f (.pick (.t 9) (.c (.bool true)) (.t 12))⟩])
 (.cond (.t 13)
  (.seq (.reg [
    ⟨(some 4), none, .f (.mv (.c (.bool false)))⟩])
  .ret)
  .skip))
 (.seq (.seq (.reg [
   ⟨(some 5), none, .f (.mv (.c (.int .i64 0)))⟩])
 (.block 0 (.loop (.seq (.seq (.reg [
     ⟨(some 14), none, .f (.mv (.t 5))⟩,
     ⟨(some 15), none, .f (.mv (.t 0))⟩,
     ⟨(some 16), none, .f (.len (.t 15))⟩,
     ⟨(some 17), none, .f (.bin .lss (.t 14) (.t 16))⟩])
   (.cond (.t 17)
    .skip
    (.exit 0)))
   (.seq (.block 1 (.seq (.reg [
      ⟨(some 20), none, .f (.mv (.t 0))⟩,
      ⟨(some 21), none, .f (.mv (.t 5))⟩,
      ⟨(some 22), none, .f (.iadr 2 (.t 20) (.t 21))⟩,
      ⟨(some 23), none, .f (.ldA 2 (.t 22))⟩,
      ⟨(some 24), none, .x (.call 77 [(.t 23)])⟩,
      ⟨(some 25), none, .f (.un .not (.t 24))⟩])
    (.cond (.t 25)
     (.seq (.reg [
       ⟨(some 4), none, .f (.mv (.c (.bool false)))⟩])
     .ret)
     .skip)))
   (.reg [
     ⟨(some 18), none, .f (.mv (.t 5))⟩,
     ⟨(some 19), none, .f (.bin .add (.t 18) (.c (.int .i64 1)))⟩,
     ⟨(some 5), none, .f (.mv (.t 19))⟩]))))))
 (.seq (.reg [
   ⟨(some 4), none, .f (.mv (.c (.bool true)))⟩])
 .ret))))
theorem ok64 : fnComp Tryd.prog 64 = some (26, c64, [(.mv (.t 4))]) := by kernel_rfl

/-- loop.example/g00003/spec.l01Join -/
def c65 : CC :=
 (.seq (.reg [
   ⟨(some 4), none, .f (.mv (.c .nilslice))⟩])
 (.seq (.reg [
   ⟨(some 7), none, .f (.mv (.t 0))⟩,
   ⟨(some 8), none, .x (.call 78 [(.t 7)])⟩,
   ⟨(some 5), none, .f (.mv (.t 8))⟩])
 (.seq (.seq (.reg [
   ⟨(some 6), none, .f (.mv (.c (.int .i64 0)))⟩])
 (.block 0 (.loop (.seq (.seq (.reg [
     ⟨(some 9), none, .f (.mv (.t 6))⟩,
     ⟨(some 10), none, .f (.mv (.t 1))⟩,
     ⟨(some 11), none, .f (.len (.t 10))⟩,
     ⟨(some 12), none, .f (.bin .lss (.t 9) (.t 11))⟩])
   (.cond (.t 12)
    .skip
    (.exit 0)))
   (.seq (.block 1 (.reg [
      ⟨(some 15), none, .f (.mv (.t 5))⟩,
      ⟨(some 16), none, .f (.mv (.t 1))⟩,
      ⟨(some 17), none, .f (.mv (.t 6))⟩,
      ⟨(some 18), none, .f (.iadr 1 (.t 16) (.t 17))⟩,
      ⟨(some 19), none, .f (.ld (.t 18))⟩,
      ⟨(some 20), none, .x (.bslice 5 1 [(.int .u8 0)] 1 [(0, (.t 19))])⟩,
      ⟨(some 21), none, .x (.app 5 1 1 (.t 15) (.t 20))⟩,
      ⟨(some 5), none, .f (.mv (.t 21))⟩]))
   (.reg [
     ⟨(some 13), none, .f (.mv (.t 6))⟩,
     ⟨(some 14), none, .f (.bin .add (.t 13) (.c (.int .i64 1)))⟩,
     ⟨(some 6), none, .f (.mv (.t 14))⟩]))))))
 (.seq (.reg [
   ⟨(some 22), none, .f (.mv (.t 5))⟩,
   ⟨(some 4), none, .f (.mv (.t 22))⟩])
 .ret))))
theorem ok65 : fnComp Tryd.prog 65 = some (23, c65, [(.mv (.t 4))]) := by kernel_rfl

/-- loop.example/g00003/impl.okRest -/
def c67 : CC :=
 (.seq (.reg [
   ⟨(some 4), none, .f (.mv (.c (.bool false)))⟩])
 (.seq (.reg [
   ⟨(some 5), none, .f (.mv (.t 0))⟩,
   ⟨(some 6), none, .f (.len (.t 5))⟩,
   ⟨(some 7), none, .f (.bin .leq (.t 6) (.c (.int .i64 16)))⟩,
   ⟨(some 8), none, .f (.mv (.t 7))⟩,
   ⟨(some 9), (some (8, true)), .f (.mv (.t 1))⟩,
   ⟨(some 10), (some (8, true)), .f (.len (.t 9))⟩,
   ⟨(some 11), (some (8, true)), .f (.bin .leq (.t 10) (.c (.int .i64 60000)))⟩,
   ⟨(some 12), none, .f (.pick (.t 8) (.t 11) (.c (.bool false)))⟩,
   ⟨(some 13), none, .f (.mv (.t 12))⟩,
   ⟨(some 14), (some (13, true)), .f (.mv (.t 0))⟩,
   ⟨(some 15), (some (13, true)), .x (.call 79 [(.t 14), (.fn 80)])⟩,
   ⟨(some 16), (some (13, true)), .f (.un .not (.t 15))⟩,
   ⟨(some 17), none, .f (.pick (.t 13) (.t 16) (.c (.bool false)))⟩,
   ⟨(some 4), none, .f (.mv (.t 17))⟩])
 .ret))
theorem ok67 : fnComp Tryd.prog 67 = some (18, c67, [(.mv (.t 4))]) := by kernel_rfl

/-- loop.example/g00003/spec.l20VerbOK -/
def c70 : CC :=
 (.seq (.reg [
   ⟨(some 2), none, .f (.mv (.c (.bool false)))⟩])
 (.seq (.reg [
   ⟨(some 3), none, .f (.mv (.t 0))⟩,
   ⟨(some 4), none, .f (.bin .eql (.t 3) (.c (.str [103, 101, 116])))⟩,
   ⟨(some 5), none, .f (.mv (.t 4))⟩,
   ⟨(some 6), (some (5, false)), .f (.mv (.t 0))⟩,
   ⟨(some 7), (some (5, false)), .f (.bin .eql (.t 6) (.c (.str [112, 117, 116])))⟩,
   ⟨(some 8), none, .f (.pick (.t 5) (.c (.bool true)) (.t 7))⟩,
   ⟨(some 9), none, .f (.mv (.t 8))⟩,
   ⟨(some 10), (some (9, false)), .f (.mv (.t 0))⟩,
   ⟨(some 11), (some (9, false)), .f (.bin .eql (.t 10) (.c (.str [100, 101, 108, 101, 116, 101])))⟩,
   ⟨(some 12), none, .f (.pick (.t 9) (.c (.bool true)) (.t 11))⟩,
   ⟨(some 13), none, .f (.mv (.t 12))⟩,
   ⟨(some 14), (some (13, false)), .f (.mv (.t 0))⟩,
   ⟨(some 15), (some (13, false)), .f (.bin .eql (.t 14) (.c (.str [108, 105, 115, 116])))⟩,
   ⟨(some 16), none, .f (.pick (.t 13) (.c (.bool true)) (.t 15))⟩,
   ⟨(some 2), none, .f (.mv (.t 16))⟩])
 .ret))
theorem ok70 : fnComp Tryd.prog 70 = some (17, c70, [(.mv (.t 2))]) := by kernel_rfl

/-- loop.example/g00003/spec.l20PathOK -/
def c71 : CC :=
 (.seq (.reg [
   ⟨(some 2), none, .f (.mv (.c (.bool false)))⟩])
 (.seq (.seq (.reg [
   ⟨(some 4), none, .f (.mv (.t 0))⟩,
   ⟨(some 5), none, .f (.lenS (.t 4))⟩,
   ⟨(some 6), none, .f (.bin .lss (.t 5) (.c (.int .i64 1)))⟩,
   ⟨(some 7), none, .f (.mv (.t 6))⟩,
   ⟨(some 8), (some (7, false)), .f (.mv (.t 0))⟩,
   ⟨(some 9), (some (7, false)), .f (.lenS (.t 8))⟩,
   ⟨(some 10), (some (7, false)), .f (.bin .gtr (.t 9) (.c (.int .i64 200)))⟩,
   ⟨(some 11), none, .f (.pick (.t 7) (.c (.bool true)) (.t 10))⟩,
   ⟨(some 12), none, .f (.mv (.t 11))⟩,
   ⟨(some 13), (some (12, false)), .f (.mv (.t 0))⟩,
   ⟨(some 14), (some (12, false)), .f (.idxS (.t 13) (.c (.int .i64 0)))⟩,
   ⟨(some 15), (some (12, false)), .f (.bin .neq (.t 14) (.c (.int .u8 47)))⟩,
   ⟨(some 16), none, .f (.pick (.t 12) (.c (.bool true)) (.t 15))⟩])
 (.cond (.t 16)
  (.seq (.reg [
    ⟨(some 2), none, .f (.mv (.c (.bool false)))⟩])
  .ret)
  .skip))
 (.seq (.seq (.reg [
   ⟨(some 3), none, .f (.mv (.c (.int .i64 0)))⟩])
 (.block 0 (.loop (.seq (.seq (.reg [
     ⟨(some 17), none, .f (.mv (.t 3))⟩,
     ⟨(some 18), none, .f (.mv (.t 0))⟩,
     ⟨(some 19), none, .f (.lenS (.t 18))⟩,
     ⟨(some 20), none, .f (.bin .lss (.t 17) (.t 19))⟩])
   (.cond (.t 20)
    .skip
    (.exit 0)))
   (.seq (.block 1 (.seq (.reg [
      ⟨(some 23), none, .f (.mv (.t 0))⟩,
      ⟨(some 24), none, .f (.mv (.t 3))⟩,
      ⟨(some 25), none, .f (.idxS (.t 23) (.t 24))⟩,
      ⟨(some 26), none, .x (.call 82 [(.t 25)])⟩,
      ⟨(some 27), none, .f (.un .not (.t 26))⟩,
      ⟨(some 28), none, .f (.mv (.t 27))⟩,
      ⟨(some 29), (some (28, false)), .f (.mv (.t 0))⟩,
      ⟨(some 30), (some (28, false)), .f (.mv (.t 3))⟩,
      ⟨(some 31), (some (28, false)), .f (.idxS (.t 29) (.t 30))⟩,
      ⟨(some 32), (some (28, false)), .f (.bin .eql (.t 31) (.c (.int .u8 58)))⟩,
      ⟨(some 33), none, .f (.pick (.t 28) (.c (.bool true)) (.t 32))⟩])
    (.cond (.t 33)
     (.seq (.reg [
       ⟨(some 2), none, .f (.mv (.c (.bool false)))⟩])
     .ret)
     .skip)))
   (.reg [
     ⟨(some 21), none, .f (.mv (.t 3))⟩,
     ⟨(some 22), none, .f (.bin .add (.t 21) (.c (.int .i64 1)))⟩,
     ⟨(some 3), none, .f (.mv (.t 22))⟩]))))))
 (.seq (.reg [
   ⟨(some 2), none, .f (.mv (.c (.bool true)))⟩])
 .ret))))
theorem ok71 : fnComp Tryd.prog 71 = some (34, c71, [(.mv (.t 2))]) := by kernel_rfl

/-- loop.example/g00003/impl.okPath -/
def c72 : CC :=
 (.seq (.reg [
   ⟨(some 2), none, .f (.mv (.c (.bool false)))⟩])
 (.seq (.seq (.reg [
   ⟨(some 5), none, .f (.mv (.t 0))⟩,
   ⟨(some 6), none, .f (.lenS (.t 5))⟩,
   ⟨(some 7), none, .f (.bin .lss (.t 6) (.c (.int .i64 1)))⟩,
   ⟨(some 8), none, .f (.mv (.t 7))⟩,
   ⟨(some 9), (some (8, false)), .f (.mv (.t 0))⟩,
   ⟨(some 10), (some (8, false)), .f (.lenS (.t 9))⟩,
   ⟨(some 11), (some (8, false)), .f (.bin .gtr (.t 10) (.c (.int .i64 200)))⟩,
   ⟨(some 12), none, .f (.pick (.t 8) (.c (.bool true)) (.t 11))⟩,
   ⟨(some 13), none, .f (.mv (.t 12))⟩,
   ⟨(some 14), (some (13, false)), .f (.mv (.t 0))⟩,
   ⟨(some 15), (some (13, false)), .f (.idxS (.t 14) (.c (.int .i64 0)))⟩,
   ⟨(some 16), (some (13, false)), .f (.bin .neq (.t 15) (.c (.int .u8 47)))⟩,
   ⟨(some 17), none, .f (.pick (.t 13) (.c (.bool true)) (.t 16))⟩])
 (.cond (.t 17)
  (.seq (.reg [
    ⟨(some 2), none, .f (.mv (.c (.bool false)))⟩])
  .ret)
  .skip))
 (.seq (.seq (.reg [
   ⟨(some 18), none, .f (.mv (.t 0))⟩,
   ⟨(some 19), none, .x (.s2b 5 (.t 18))⟩,
   ⟨(some 20), none, .f (.len (.t 19))⟩,
   ⟨(some 21), none, .f (.mv (.c (.int .i64 0)))⟩])
 (.block 0 (.loop (.seq (.reg [
     ⟨(some 22), none, .f (.bin .lss (.t 21) (.t 20))⟩])
   (.seq (.cond (.t 22)
    .skip
    (.exit 0))
   (.seq (.block 1 (.seq (.reg [
      ⟨(some 23), none, .f (.iadr 1 (.t 19) (.t 21))⟩,
      ⟨(some 24), none, .f (.ld (.t 23))⟩,
      ⟨(some 4), none, .f (.mv (.t 24))⟩])
    (.seq (.reg [
      ⟨(some 25), none, .f (.mv (.t 4))⟩,
      ⟨(some 26), none, .f (.bin .geq (.t 25) (.c (.int .u8 97)))⟩,
      ⟨(some 27), none, .f (.mv (.t 26))⟩,
      ⟨(some 28), (some (27, true)), .f (.mv (.t 4))⟩,
      ⟨(some 29), (some (27, true)), .f (.bin .leq (.t 28) (.c (.int .u8 122)))⟩,
      ⟨(some 30), none, .f (.pick (.t 27) (.t 29) (.c (.bool false)))⟩,
      ⟨(some 31), none, .f (.mv (.t 30))⟩,
      ⟨(some 32), (some (31, false)), .f (.mv (.t 4))⟩,
      ⟨(some 33), (some (31, false)), .f (.bin .geq (.t 32) (.c (.int .u8 65)))⟩,
      ⟨(some 34), (some (31, false)), .f (.mv (.t 33))⟩,
      ⟨(some 35), (some (34, true)), .f (.mv (.t 4))⟩,
      ⟨(some 36), (some (34, true)), .f (.bin .leq (.t 35) (.c (.int .u8 90)))⟩,
      ⟨(some 37), (some (31, false)), .f (.pick (.t 34) (.t 36) (.c (.bool false)))⟩,
      ⟨(some 38), none, .f (.pick (.t 31) (.c (.bool true)) (.t 37))⟩,
      ⟨(some 39), none, .f (.mv (.t 38))⟩,
      ⟨(some 40), (some (39, false)), .f (.mv (.t 4))⟩,
      ⟨(some 41), (some (39, false)), .f (.bin .geq (.t 40) (.c (.int .u8 48)))⟩,
      ⟨(some 42), (some (39, false)), .f (.mv (.t 41))⟩,
      ⟨(some 43), (some (42, true)), .f (.mv (.t 4))⟩,
      ⟨(some 44), (some (42, true)), .f (.bin .leq (.t 43) (.c (.int .u8 57)))⟩,
      ⟨(some 45), (some (39, false)), .f (.pick (.t 42) (.t 44) (.c (.bool false)))⟩,
      ⟨(some 46), none, .f (.pick (.t 39) (.c (.bool true)) (.t 45))⟩,
      ⟨(some 47), none, .f (.mv (.t 46))⟩,
      ⟨(some 48), (some (47, false)), .f (.mv (.t 4))⟩,
      ⟨(some 49), (some (47, false)), .x (.call 83 [(.c (.str [46, 45, 95, 47])), (.t 48)])⟩,
      ⟨(some 50), (some (47, false)), .f (.bin .geq (.t 49) (.c (.int .i64 0)))⟩,
      ⟨(some 51), none, .f (.pick (.t 47) (.c (.bool true)) (.t 50))⟩,
      ⟨(some 52), none, .f (.un .not (.t 51))⟩])
    (.cond (.t 52)
     (.seq (.reg [
       ⟨(some 2), none, .f (.mv (.c (.bool false)))⟩])
     .ret)
     .skip))))
   (.reg [
     ⟨(some 53), none, .f (.bin .add (.t 21) (.c (.int .i64 1)))⟩,
     ⟨(some 21), none, .f (.mv (.t 53))⟩])))))))
 (.seq (.reg [
   ⟨(some 2), none, .f (.mv (.c (.bool true)))⟩])
 .ret))))
theorem ok72 : fnComp Tryd.prog 72 = some (54, c72, [(.mv (.t 2))]) := by kernel_rfl

/-- loop.example/g00003/spec.l20FieldOK -/
def c77 : CC :=
 (.seq (.reg [
   ⟨(some 1), none, .x (.box 104 2 (.t 0))⟩,
   ⟨(some 2), none, .f (.mv (.c (.bool false)))⟩])
 (.seq (.seq (.reg [
   ⟨(some 5), none, .f (.fadr 0 (.t 1))⟩,
   ⟨(some 6), none, .f (.ld (.t 5))⟩,
   ⟨(some 7), none, .f (.lenS (.t 6))⟩,
   ⟨(some 8), none, .f (.bin .lss (.t 7) (.c (.int .i64 1)))⟩,
   ⟨(some 9), none, .f (.mv (.t 8))⟩,
   ⟨(some 10), (some (9, false)), .f (.fadr 0 (.t 1))⟩,
   ⟨(some 11), (some (9, false)), .f (.ld (.t 10))⟩,
   ⟨(some 12), (some (9, false)), .f (.lenS (.t 11))⟩,
   ⟨(some 13), (some (9, false)), .f (.bin .gtr (.t 12) (.c (.int .i64 40)))⟩,
   ⟨(some 14), none, .f (.pick (.t 9) (.c (.bool true)) (.t 13))⟩,
   ⟨(some 15), none, .f (.mv (.t 14))⟩,
   ⟨(some 16), (some (15, false)), .f (.fadr 0 (.t 1))⟩,
   ⟨(some 17), (some (15, false)), .f (.ld (.t 16))⟩,
   ⟨(some 18), (some (15, false)), .f (.bin .eql (.t 17) (.c (.str [108, 101, 110, 103, 116, 104])))⟩,
   ⟨(some 19), none, .f (.pick (.t 15) (.c (.bool true)) (.t 18))⟩,
   ⟨(some 20), none, .f (.mv (.t 19))⟩,
   ⟨(some 21), (some (20, false)), .f (.fadr 1 (.t 1))⟩,
   ⟨(some 22), (some (20, false)), .f (.ld (.t 21))⟩,
   ⟨(some 23), (some (20, false)), .f (.lenS (.t 22))⟩,
   ⟨(some 24), (some (20, false)), .f (.bin .gtr (.t 23) (.c (.int .i64 200)))⟩,
   ⟨(some 25), none, .f (.pick (.t 20) (.c (.bool true)) (.t 24))⟩])
 (.cond (.t 25)
  (.seq (.reg [
    ⟨(some 2), none, .f (.mv (.c (.bool false)))⟩])
  .ret)
  .skip))
 (.seq (.seq (.reg [
   ⟨(some 3), none, .f (.mv (.c (.int .i64 0)))⟩])
 (.block 0 (.loop (.seq (.seq (.reg [
     ⟨(some 26), none, .f (.mv (.t 3))⟩,
     ⟨(some 27), none, .f (.fadr 0 (.t 1))⟩,
     ⟨(some 28), none, .f (.ld (.t 27))⟩,
     ⟨(some 29), none, .f (.lenS (.t 28))⟩,
     ⟨(some 30), none, .f (.bin .lss (.t 26) (.t 29))⟩])
   (.cond (.t 30)
    .skip
    (.exit 0)))
   (.seq (.block 1 (.seq (.reg [
      ⟨(some 33), none, .f (.fadr 0 (.t 1))⟩,
      ⟨(some 34), none, .f (.ld (.t 33))⟩,
      ⟨(some 35), none, .f (.mv (.t 3))⟩,
      ⟨(some 36), none, .f (.idxS (.t 34) (.t 35))⟩,
      ⟨(some 37), none, .f (.bin .lss (.t 36) (.c (.int .u8 97)))⟩,
      ⟨(some 38), none, .f (.mv (.t 37))⟩,
      ⟨(some 39), (some (38, false)), .f (.fadr 0 (.t 1))⟩,
      ⟨(some 40), (some (38, false)), .f (.ld (.t 39))⟩,
      ⟨(some 41), (some (38, false)), .f (.mv (.t 3))⟩,
      ⟨(some 42), (some (38, false)), .f (.idxS (.t 40) (.t 41))⟩,
      ⟨(some 43), (some (38, false)), .f (.bin .gtr (.t 42) (.c (.int .u8 122)))⟩,
      ⟨(some 44), none, .f (.pick (.t 38) (.c (.bool true)) (.t 43))⟩,
      ⟨(some 45), none, .f (.mv (.t 44))⟩,
      ⟨(some 46), (some (45, true)), .f (.fadr 0 (.t 1))⟩,
      ⟨(some 47), (some (45, true)), .f (.ld (.t 46))⟩,
      ⟨(some 48), (some (45, true)), .f (.mv (.t 3))⟩,
      ⟨(some 49), (some (45, true)), .f (.idxS (.t 47) (.t 48))⟩,
      ⟨(some 50), (some (45, true)), .f (.bin .neq (.t 49) (.c (.int .u8 45)))⟩,
      ⟨(some 51), none, .f (.pick (.t 45) (.t 50) (.c (.bool false)))⟩])
    (.cond (.t 51)
     (.seq (.reg [
       ⟨(some 2), none, .f (.mv (.c (.bool false)))⟩])
     .ret)
     .skip)))
   (.reg [
     ⟨(some 31), none, .f (.mv (.t 3))⟩,
     ⟨(some 32), none, .f (.bin .add (.t 31) (.c (.int .i64 1)))⟩,
     ⟨(some 3), none, .f (.mv (.t 32))⟩]))))))
 (.seq (.seq (.reg [
   ⟨(some 4), none, .f (.mv (.c (.int .i64 0)))⟩])
 (.block 2 (.loop (.seq (.seq (.reg [
     ⟨(some 52), none, .f (.mv (.t 4))⟩,
     ⟨(some 53), none, .f (.fadr 1 (.t 1))⟩,
     ⟨(some 54), none, .f (.ld (.t 53))⟩,
     ⟨(some 55), none, .f (.lenS (.t 54))⟩,
     ⟨(some 56), none, .f (.bin .lss (.t 52) (.t 55))⟩])
   (.cond (.t 56)
    .skip
    (.exit 2)))
   (.seq (.block 3 (.seq (.reg [
      ⟨(some 59), none, .f (.fadr 1 (.t 1))⟩,
      ⟨(some 60), none, .f (.ld (.t 59))⟩,
      ⟨(some 61), none, .f (.mv (.t 4))⟩,
      ⟨(some 62), none, .f (.idxS (.t 60) (.t 61))⟩,
      ⟨(some 63), none, .f (.bin .lss (.t 62) (.c (.int .u8 32)))⟩,
      ⟨(some 64), none, .f (.mv (.t 63))⟩,
      ⟨(some 65), (some (64, false)), .f (.fadr 1 (.t 1))⟩,
      ⟨(some 66), (some (64, false)), .f (.ld (.t 65))⟩,
      ⟨(some 67), (some (64, false)), .f (.mv (.t 4))⟩,
      ⟨(some 68), (some (64, false)), .f (.idxS (.t 66) (.t 67))⟩,
      ⟨(some 69), (some (64, false)), .f (.bin .gtr (.t 68) (.c (.int .u8 126)))⟩,
      ⟨(some 70), none, .f (.pick (.t 64) (.c (.bool true)) (.t 69))⟩])
    (.cond (.t 70)
     (.seq (.reg [
       ⟨(some 2), none, .f (.mv (.c (.bool false)))⟩])
     .ret)
     .skip)))
   (.reg [
     ⟨(some 57), none, .f (.mv (.t 4))⟩,
     ⟨(some 58), none, .f (.bin .add (.t 57) (.c (.int .i64 1)))⟩,
     ⟨(some 4), none, .f (.mv (.t 58))⟩]))))))
 (.seq (.reg [
   ⟨(some 71), none, .f (.fadr 1 (.t 1))⟩,
   ⟨(some 72), none, .f (.ld (.t 71))⟩,
   ⟨(some 73), none, .f (.bin .eql (.t 72) (.c (.str [])))⟩,
   ⟨(some 74), none, .f (.mv (.t 73))⟩,
   ⟨(some 75), (some (74, false)), .f (.fadr 1 (.t 1))⟩,
   ⟨(some 76), (some (74, false)), .f (.ld (.t 75))⟩,
   ⟨(some 77), (some (74, false)), .f (.idxS (.t 76) (.c (.int .i64 0)))⟩,
   ⟨(some 78), (some (74, false)), .f (.bin .neq (.t 77) (.c (.int .u8 32)))⟩,
   ⟨(some 79), (some (74, false)), .f (.mv (.t 78))⟩,
   ⟨(some 80), (some (79, true)), .f (.fadr 1 (.t 1))⟩,
   ⟨(some 81), (some (79, true)), .f (.ld (.t 80))⟩,
   ⟨(some 82), (some (79, true)), .f (.fadr 1 (.t 1))⟩,
   ⟨(some 83), (some (79, true)), .f (.ld (.t 82))⟩,
   ⟨(some 84), (some (79, true)), .f (.lenS (.t 83))⟩,
   ⟨(some 85), (some (79, true)), .f (.bin .sub (.t 84) (.c (.int .i64 1)))⟩,
   ⟨(some 86), (some (79, true)), .f (.idxS (.t 81) (.t 85))⟩,
   ⟨(some 87), (some (79, true)), .f (.bin .neq (.t 86) (.c (.int .u8 32)))⟩,
   ⟨(some 88), (some (74, false)), .f (.pick (.t 79) (.t 87) (.c (.bool false)))⟩,
   ⟨(some 89), none, .f (.pick (.t 74) (.c (.bool true)) (.t 88))⟩,
   ⟨(some 2), none, .f (.mv (.t 89))⟩])
 .ret)))))
theorem ok77 : fnComp Tryd.prog 77 = some (90, c77, [(.mv (.t 2))]) := by kernel_rfl

/-- loop.example/g00003/spec.l01Copy -/
def c78 : CC :=
 (.seq (.reg [
   ⟨(some 2), none, .f (.mv (.c .nilslice))⟩])
 (.seq (.reg [
   ⟨(some 5), none, .x (.bslice 5 1 [(.int .u8 0)] 0 [])⟩,
   ⟨(some 3), none, .f (.mv (.t 5))⟩])
 (.seq (.seq (.reg [
   ⟨(some 4), none, .f (.mv (.c (.int .i64 0)))⟩])
 (.block 0 (.loop (.seq (.seq (.reg [
     ⟨(some 6), none, .f (.mv (.t 4))⟩,
     ⟨(some 7), none, .f (.mv (.t 0))⟩,
     ⟨(some 8), none, .f (.len (.t 7))⟩,
     ⟨(some 9), none, .f (.bin .lss (.t 6) (.t 8))⟩])
   (.cond (.t 9)
    .skip
    (.exit 0)))
   (.seq (.block 1 (.reg [
      ⟨(some 12), none, .f (.mv (.t 3))⟩,
      ⟨(some 13), none, .f (.mv (.t 0))⟩,
      ⟨(some 14), none, .f (.mv (.t 4))⟩,
      ⟨(some 15), none, .f (.iadr 1 (.t 13) (.t 14))⟩,
      ⟨(some 16), none, .f (.ld (.t 15))⟩,
      ⟨(some 17), none, .x (.bslice 5 1 [(.int .u8 0)] 1 [(0, (.t 16))])⟩,
      ⟨(some 18), none, .x (.app 5 1 1 (.t 12) (.t 17))⟩,
      ⟨(some 3), none, .f (.mv (.t 18))⟩]))
   (.reg [
     ⟨(some 10), none, .f (.mv (.t 4))⟩,
     ⟨(some 11), none, .f (.bin .add (.t 10) (.c (.int .i64 1)))⟩,
     ⟨(some 4), none, .f (.mv (.t 11))⟩]))))))
 (.seq (.reg [
   ⟨(some 19), none, .f (.mv (.t 3))⟩,
   ⟨(some 2), none, .f (.mv (.t 19))⟩])
 .ret))))
theorem ok78 : fnComp Tryd.prog 78 = some (20, c78, [(.mv (.t 2))]) := by kernel_rfl

/-- slices.ContainsFunc[[]loop.example/g00003/impl.Field,loop.example/g00003/impl.Field] -/
def c79 : CC :=
 (.seq (.reg [
   ⟨(some 4), none, .f (.mv (.c (.bool false)))⟩])
 (.seq (.reg [
   ⟨(some 5), none, .f (.mv (.t 0))⟩,
   ⟨(some 6), none, .f (.mv (.t 1))⟩,
   ⟨(some 7), none, .x (.call 90 [(.t 5), (.t 6)])⟩,
   ⟨(some 8), none, .f (.bin .geq (.t 7) (.c (.int .i64 0)))⟩,
   ⟨(some 4), none, .f (.mv (.t 8))⟩])
 .ret))
theorem ok79 : fnComp Tryd.prog 79 = some (9, c79, [(.mv (.t 4))]) := by kernel_rfl

/-- loop.example/g00003/impl.okRest$1 -/
def c80 : CC :=
 (.seq (.reg [
   ⟨(some 1), none, .x (.box 104 2 (.t 0))⟩,
   ⟨(some 2), none, .f (.mv (.c (.bool false)))⟩])
 (.seq (.reg [
   ⟨(some 3), none, .f (.ldA 2 (.t 1))⟩,
   ⟨(some 4), none, .x (.call 81 [(.t 3)])⟩,
   ⟨(some 5), none, .f (.un .not (.t 4))⟩,
   ⟨(some 2), none, .f (.mv (.t 5))⟩])
 .ret))
theorem ok80 : fnComp Tryd.prog 80 = some (6, c80, [(.mv (.t 2))]) := by kernel_rfl

/-- loop.example/g00003/impl.okField -/
def c81 : CC :=
 (.seq (.reg [
   ⟨(some 1), none, .x (.box 104 2 (.t 0))⟩,
   ⟨(some 2), none, .f (.mv (.c (.bool false)))⟩])
 (.seq (.seq (.reg [
   ⟨(some 7), none, .f (.fadr 0 (.t 1))⟩,
   ⟨(some 8), none, .f (.ld (.t 7))⟩,
   ⟨(some 9), none, .f (.lenS (.t 8))⟩,
   ⟨(some 10), none, .f (.bin .lss (.t 9) (.c (.int .i64 1)))⟩,
   ⟨(some 11), none, .f (.mv (.t 10))⟩,
   ⟨(some 12), (some (11, false)), .f (.fadr 0 (.t 1))⟩,
   ⟨(some 13), (some (11, false)), .f (.ld (.t 12))⟩,
   ⟨(some 14), (some (11, false)), .f (.lenS (.t 13))⟩,
   ⟨(some 15), (some (11, false)), .f (.bin .gtr (.t 14) (.c (.int .i64 40)))⟩,
   ⟨(some 16), none, .f (.pick (.t 11) (.c (.bool true)) (.t 15))⟩,
   ⟨(some 17), none, .f (.mv (.t 16))⟩,
   ⟨(some 18), (some (17, false)), .f (.fadr 0 (.t 1))⟩,
   ⟨(some 19), (some (17, false)), .f (.ld (.t 18))⟩,
   ⟨(some 20), (some (17, false)), .f (.bin .eql (.t 19) (.c (.str [108, 101, 110, 103, 116, 104])))⟩,
   ⟨(some 21), none, .f (.pick (.t 17) (.c (.bool true)) (.t 20))⟩,
   ⟨(some 22), none, .f (.mv (.t 21))⟩,
   ⟨(some 23), (some (22, false)), .f (.fadr 1 (.t 1))⟩,
   ⟨(some 24), (some (22, false)), .f (.ld (.t 23))⟩,
   ⟨(some 25), (some (22, false)), .f (.lenS (.t 24))⟩,
   ⟨(some 26), (some (22, false)), .f (.bin .gtr (.t 25) (.c (.int .i64 200)))⟩,
   ⟨(some 27), none, .f (.pick (.t 22) (.c (.bool true)) (.t 26))⟩])
 (.cond (.t 27)
  (.seq (.reg [
    ⟨(some 2), none, .f (.mv (.c (.bool false)))⟩])
  .ret)
  .skip))
 (.seq (.seq (.reg [
   ⟨(some 28), none, .f (.fadr 0 (.t 1))⟩,
   ⟨(some 29), none, .f (.ld (.t 28))⟩,
   ⟨(some 30), none, .x (.s2b 5 (.t 29))⟩,
   ⟨(some 31), none, .f (.len (.t 30))⟩,
   ⟨(some 32), none, .f (.mv (.c (.int .i64 0)))⟩])
 (.block 0 (.loop (.seq (.reg [
     ⟨(some 33), none, .f (.bin .lss (.t 32) (.t 31))⟩])
   (.seq (.cond (.t 33)
    .skip
    (.exit 0))
   (.seq (.block 1 (.seq (.reg [
      ⟨(some 34), none, .f (.iadr 1 (.t 30) (.t 32))⟩,
      ⟨(some 35), none, .f (.ld (.t 34))⟩,
      ⟨(some 4), none, .f (.mv (.t 35))⟩])
    (.seq (.reg [
      ⟨(some 36), none, .f (.mv (.t 4))⟩,
      ⟨(some 37), none, .f (.bin .geq (.t 36) (.c (.int .u8 97)))⟩,
      ⟨(some 38), none, .f (.mv (.t 37))⟩,
      ⟨(some 39), (some (38, true)), .f (.mv (.t 4))⟩,
      ⟨(some 40), (some (38, true)), .f (.bin .leq (.t 39) (.c (.int .u8 122)))⟩,
      ⟨(some 41), none, .f (.pick (.t 38) (.t 40) (.c (.bool false)))⟩,
      ⟨(some 42), none, .f (.mv (.t 41))⟩,
      ⟨(some 43), (some (42, false)), .f (.mv (.t 4))⟩,
      ⟨(some 44), (some (42, false)), .f (.bin .eql (.t 43) (.c (.int .u8 45)))⟩,
      ⟨(some 45), none, .f (.pick (.t 42) (.c (.bool true)) (.t 44))⟩,
      ⟨(some 46), none, .f (.un .not (.t 45))⟩])
    (.cond (.t 46)
     (.seq (.reg [
       ⟨(some 2), none, .f (.mv (.c (.bool false)))⟩])
     .ret)
     .skip))))
   (.reg [
     ⟨(some 47), none, .f (.bin .add (.t 32) (.c (.int .i64 1)))⟩,
     ⟨(some 32), none, .f (.mv (.t 47))⟩])))))))
 (.seq (.seq (.reg [
   ⟨(some 48), none, .f (.fadr 1 (.t 1))⟩,
   ⟨(some 49), none, .f (.ld (.t 48))⟩,
   ⟨(some 50), none, .x (.s2b 5 (.t 49))⟩,
   ⟨(some 51), none, .f (.len (.t 50))⟩,
   ⟨(some 52), none, .f (.mv (.c (.int .i64 0)))⟩])
 (.block 2 (.loop (.seq (.reg [
     ⟨(some 53), none, .f (.bin .lss (.t 52) (.t 51))⟩])
   (.seq (.cond (.t 53)
    .skip
    (.exit 2))
   (.seq (.block 3 (.seq (.reg [
      ⟨(some 54), none, .f (.iadr 1 (.t 50) (.t 52))⟩,
      ⟨(some 55), none, .f (.ld (.t 54))⟩,
      ⟨(some 6), none, .f (.mv (.t 55))⟩])
    (.seq (.reg [
      ⟨(some 56), none, .f (.mv (.t 6))⟩,
      ⟨(some 57), none, .f (.bin .lss (.t 56) (.c (.int .u8 32)))⟩,
      ⟨(some 58), none, .f (.mv (.t 57))⟩,
      ⟨(some 59), (some (58, false)), .f (.mv (.t 6))⟩,
      ⟨(some 60), (some (58, false)), .f (.bin .gtr (.t 59) (.c (.int .u8 126)))⟩,
      ⟨(some 61), none, .f (.pick (.t 58) (.c (.bool true)) (.t 60))⟩])
    (.cond (.t 61)
     (.seq (.reg [
       ⟨(some 2), none, .f (.mv (.c (.bool false)))⟩])
     .ret)
     .skip))))
   (.reg [
     ⟨(some 62), none, .f (.bin .add (.t 52) (.c (.int .i64 1)))⟩,
     ⟨(some 52), none, .f (.mv (.t 62))⟩])))))))
 (.seq (.dreg [
   ⟨(some 63), none, .f (.fadr 1 (.t 1))⟩,
   ⟨(some 64), none, .f (.ld (.t 63))⟩,
   ⟨(some 65), none, .f (.fadr 1 (.t 1))⟩,
   ⟨(some 66), none, .f (.ld (.t 65))⟩,
   ⟨(some 67), none, .x (.call 91 [(.t 66), (.c (.str [32]))])⟩,
   ⟨(some 68), none, .f (.bin .eql (.t 64) (.t 67))⟩,
   ⟨(some 2), none, .f (.mv (.t 68))⟩]
   [false, false, false, false, true, false, false] [[], [0], [], [2], [3, 2], [1, 0, 4, 3, 2], [5, 1, 0, 4, 3, 2]] [0, 1, 2, 3, 4, 5, 6])
 .ret)))))
theorem ok81 : fnComp Tryd.prog 81 = some (69, c81, [(.mv (.t 2))]) := by kernel_rfl

/-- loop.example/g00003/spec.l20Plain -/
def c82 : CC :=
 (.seq (.reg [
   ⟨(some 2), none, .f (.mv (.c (.bool false)))⟩])
 (.seq (.reg [
   ⟨(some 3), none, .f (.mv (.t 0))⟩,
   ⟨(some 4), none, .f (.bin .geq (.t 3) (.c (.int .u8 97)))⟩,
   ⟨(some 5), none, .f (.mv (.t 4))⟩,
   ⟨(some 6), (some (5, true)), .f (.mv (.t 0))⟩,
   ⟨(some 7), (some (5, true)), .f (.bin .leq (.t 6) (.c (.int .u8 122)))⟩,
   ⟨(some 8), none, .f (.pick (.t 5) (.t 7) (.c (.bool false)))⟩,
   ⟨(some 9), none, .f (.mv (.t 8))⟩,
   ⟨(some 10), (some (9, false)), .f (.mv (.t 0))⟩,
   ⟨(some 11), (some (9, false)), .f (.bin .geq (.t 10) (.c (.int .u8 65)))⟩,
   ⟨(some 12), (some (9, false)), .f (.mv (.t 11))⟩,
   ⟨(some 13), (some (12, true)), .f (.mv (.t 0))⟩,
   ⟨(some 14), (some (12, true)), .f (.bin .leq (.t 13) (.c (.int .u8 90)))⟩,
   ⟨(some 15), (some (9, false)), .f (.pick (.t 12) (.t 14) (.c (.bool false)))⟩,
   ⟨(some 16), none, .f (.pick (.t 9) (.c (.bool true)) (.t 15))⟩,
   ⟨(some 17), none, .f (.mv (.t 16))⟩,
   ⟨(some 18), (some (17, false)), .f (.mv (.t 0))⟩,
   ⟨(some 19), (some (17, false)), .f (.bin .geq (.t 18) (.c (.int .u8 48)))⟩,
   ⟨(some 20), (some (17, false)), .f (.mv (.t 19))⟩,
   ⟨(some 21), (some (20, true)), .f (.mv (.t 0))⟩,
   ⟨(some 22), (some (20, true)), .f (.bin .leq (.t 21) (.c (.int .u8 57)))⟩,
   ⟨(some 23), (some (17, false)), .f (.pick (.t 20) (.t 22) (.c (.bool false)))⟩,
   ⟨(some 24), none, .f (.pick (.t 17) (.c (.bool true)) (.t 23))⟩,
   ⟨(some 25), none, .f (.mv (.t 24))⟩,
   ⟨(some 26), (some (25, false)), .f (.mv (.t 0))⟩,
   ⟨(some 27), (some (25, false)), .f (.bin .eql (.t 26) (.c (.int .u8 46)))⟩,
   ⟨(some 28), none, .f (.pick (.t 25) (.c (.bool true)) (.t 27))⟩,
   ⟨(some 29), none, .f (.mv (.t 28))⟩,
   ⟨(some 30), (some (29, false)), .f (.mv (.t 0))⟩,
   ⟨(some 31), (some (29, false)), .f (.bin .eql (.t 30) (.c (.int .u8 45)))⟩,
   ⟨(some 32), none, .f (.pick (.t 29) (.c (.bool true)) (.t 31))⟩,
   ⟨(some 33), none, .f (.mv (.t 32))⟩,
   ⟨(some 34), (some (33, false)), .f (.mv (.t 0))⟩,
   ⟨(some 35), (some (33, false)), .f (.bin .eql (.t 34) (.c (.int .u8 95)))⟩,
   ⟨(some 36), none, .f (.pick (.t 33) (.c (.bool true)) (.t 35))⟩,
   ⟨(some 37), none, .f (.mv (.t 36))⟩,
   ⟨(some 38), (some (37, false)), .f (.mv (.t 0))⟩,
   ⟨(some 39), (some (37, false)), .f (.bin .eql (.t 38) (.c (.int .u8 47)))⟩,
   ⟨(some 40), none, .f (.pick (.t 37) (.c (.bool true)) (.t 39))⟩,
   ⟨(some 41), none, .f (.mv (.t 40))⟩,
   ⟨(some 42), (some (41, false)), .f (.mv (.t 0))⟩,
   ⟨(some 43), (some (41, false)), .f (.bin .eql (.t 42) (.c (.int .u8 58)))⟩,
   ⟨(some 44), none, .f (.pick (.t 41) (.c (.bool true)) (.t 43))⟩,
   ⟨(some 2), none, .f (.mv (.t 44))⟩])
 .ret))
theorem ok82 : fnComp Tryd.prog 82 = some (45, c82, [(.mv (.t 2))]) := by kernel_rfl

/-- strings.IndexByte -/
def c83 : CC :=
 (.seq (.reg [
   ⟨(some 4), none, .f (.mv (.c (.int .i64 0)))⟩])
 (.seq (.reg [
   ⟨(some 5), none, .f (.mv (.t 0))⟩,
   ⟨(some 6), none, .f (.mv (.t 1))⟩,
   ⟨(some 7), none, .x (.call 92 [(.t 5), (.t 6)])⟩,
   ⟨(some 4), none, .f (.mv (.t 7))⟩])
 .ret))
theorem ok83 : fnComp Tryd.prog 83 = some (8, c83, [(.mv (.t 4))]) := by kernel_rfl

/-- slices.IndexFunc[[]loop.example/g00003/impl.Field,loop.example/g00003/impl.Field] -/
def c90 : CC :=
 (.seq (.reg [
   ⟨(some 4), none, .f (.mv (.c (.int .i64 0)))⟩])
 (.seq (.seq (.reg [
   ⟨(some 6), none, .f (.mv (.t 0))⟩,
   ⟨(some 7), none, .f (.len (.t 6))⟩,
   ⟨(some 8), none, .f (.mv (.c (.int .i64 0)))⟩])
 (.block 0 (.loop (.seq (.reg [
     ⟨(some 9), none, .f (.bin .lss (.t 8) (.t 7))⟩])
   (.seq (.cond (.t 9)
    .skip
    (.exit 0))
   (.seq (.block 1 (.seq (.reg [
      ⟨(some 10), none, .f (.mv (.t 8))⟩,
      ⟨(some 5), none, .f (.mv (.t 10))⟩])
    (.seq (.reg [
      ⟨(some 11), none, .f (.mv (.t 1))⟩,
      ⟨(some 12), none, .f (.mv (.t 0))⟩,
      ⟨(some 13), none, .f (.mv (.t 5))⟩,
      ⟨(some 14), none, .f (.iadr 2 (.t 12) (.t 13))⟩,
      ⟨(some 15), none, .f (.ldA 2 (.t 14))⟩,
      ⟨(some 16), none, .x (.callv (.t 11) [(.t 15)])⟩])
    (.cond (.t 16)
     (.seq (.reg [
       ⟨(some 17), none, .f (.mv (.t 5))⟩,
       ⟨(some 4), none, .f (.mv (.t 17))⟩])
     .ret)
     .skip))))
   (.reg [
     ⟨(some 18), none, .f (.bin .add (.t 8) (.c (.int .i64 1)))⟩,
     ⟨(some 8), none, .f (.mv (.t 18))⟩])))))))
 (.seq (.reg [
   ⟨(some 4), none, .f (.mv (.c (.int .i64 (-1))))⟩])
 .ret)))
theorem ok90 : fnComp Tryd.prog 90 = some (19, c90, [(.mv (.t 4))]) := by kernel_rfl

/-- internal/stringslite.IndexByte -/
def c92 : CC :=
 (.seq (.reg [
   ⟨(some 4), none, .f (.mv (.c (.int .i64 0)))⟩])
 (.seq (.reg [
   ⟨(some 5), none, .f (.mv (.t 0))⟩,
   ⟨(some 6), none, .f (.mv (.t 1))⟩,
   ⟨(some 7), none, .x (.call 105 [(.t 5), (.t 6)])⟩,
   ⟨(some 4), none, .f (.mv (.t 7))⟩])
 .ret))
theorem ok92 : fnComp Tryd.prog 92 = some (8, c92, [(.mv (.t 4))]) := by kernel_rfl

end Go.Proofs.YtaolhgjnlmaooaaDoor

namespace Go.Proofs
open Go.Shelf
def Tryd.lays160_ren : Go.Shelf.Ren := ⟨fun | 160 => 91 | 232 => 99 | 231 => 98 | 227 => 100 | 234 => 102 | 233 => 101 | 236 => 104 | 235 => 103 | 228 => 108 | 271 => 111 | 151 => 110 | 197 => 109 | 120 => 114 | 152 => 113 | 260 => 112 | 137 => 83 | 119 => 115 | 224 => 116 | 225 => 117 | 217 => 92 | 266 => 105 | n => n, fun | 9 => 9 | 4 => 4 | 3 => 3 | 5 => 5 | 117 => 135 | 116 => 134 | 0 => 0 | 124 => 138 | 21 => 21 | 105 => 140 | 46 => 84 | 119 => 146 | 139 => 149 | 138 => 148 | n => n, fun | 3 => 4 | 4 => 5 | n => n⟩
theorem Tryd.lays160 : Go.Proofs.Lays.n160 Tryd.prog Tryd.lays160_ren := {
  mixed := by kernel_rfl
  f119 := Tryd.func115.trans (congrArg some (by kernel_rfl))
  f120 := Tryd.func114.trans (congrArg some (by kernel_rfl))
  f137 := Tryd.func83.trans (congrArg some (by kernel_rfl))
  f151 := Tryd.func110.trans (congrArg some (by kernel_rfl))
  f152 := Tryd.func113.trans (congrArg some (by kernel_rfl))
  f160 := Tryd.func91.trans (congrArg some (by kernel_rfl))
  f197 := Tryd.func109.trans (congrArg some (by kernel_rfl))
  f217 := Tryd.func92.trans (congrArg some (by kernel_rfl))
  f224 := Tryd.func116.trans (congrArg some (by kernel_rfl))
  f225 := Tryd.func117.trans (congrArg some (by kernel_rfl))
  f227 := Tryd.func100.trans (congrArg some (by kernel_rfl))
  f228 := Tryd.func108.trans (congrArg some (by kernel_rfl))
  f231 := Tryd.func98.trans (congrArg some (by kernel_rfl))
  f232 := Tryd.func99.trans (congrArg some (by kernel_rfl))
  f233 := Tryd.func101.trans (congrArg some (by kernel_rfl))
  f234 := Tryd.func102.trans (congrArg some (by kernel_rfl))
  f235 := Tryd.func103.trans (congrArg some (by kernel_rfl))
  f236 := Tryd.func104.trans (congrArg some (by kernel_rfl))
  f260 := Tryd.func112.trans (congrArg some (by kernel_rfl))
  f266 := Tryd.func105.trans (congrArg some (by kernel_rfl))
  f271 := Tryd.func111.trans (congrArg some (by kernel_rfl))
  t0 := Tryd.underlying0
  a0 := Tryd.isAgg0
  z0 := Tryd.sizeOf0
  v0 := Tryd.zeroValue0
  t3 := Tryd.underlying3
  a3 := Tryd.isAgg3
  z3 := Tryd.sizeOf3
  v3 := Tryd.zeroValue3
  t4 := Tryd.underlying4
  a4 := Tryd.isAgg4
  z4 := Tryd.sizeOf4
  v4 := Tryd.zeroValue4
  t5 := Tryd.underlying5
  a5 := Tryd.isAgg5
  z5 := Tryd.sizeOf5
  v5 := Tryd.zeroValue5
  t9 := Tryd.underlying9
  a9 := Tryd.isAgg9
  z9 := Tryd.sizeOf9
  v9 := Tryd.zeroValue9
  t21 := Tryd.underlying21
  a21 := Tryd.isAgg21
  z21 := Tryd.sizeOf21
  v21 := Tryd.zeroValue21
  t46 := Tryd.underlying84
  a46 := Tryd.isAgg84
  z46 := Tryd.sizeOf84
  v46 := Tryd.zeroValue84
  t105 := Tryd.underlying140
  a105 := Tryd.isAgg140
  z105 := Tryd.sizeOf140
  v105 := Tryd.zeroValue140
  t116 := Tryd.underlying134
  a116 := Tryd.isAgg134
  z116 := Tryd.sizeOf134
  t117 := Tryd.underlying135
  a117 := Tryd.isAgg135
  z117 := Tryd.sizeOf135
  v117 := Tryd.zeroValue135
  t119 := Tryd.underlying146
  a119 := Tryd.isAgg146
  z119 := Tryd.sizeOf146
  t124 := Tryd.underlying138
  a124 := Tryd.isAgg138
  z124 := Tryd.sizeOf138
  v124 := Tryd.zeroValue138
  t138 := Tryd.underlying148
  a138 := Tryd.isAgg148
  z138 := Tryd.sizeOf148
  v138 := Tryd.zeroValue148
  t139 := Tryd.underlying149
  a139 := Tryd.isAgg149
  z139 := Tryd.sizeOf149
  v139 := Tryd.zeroValue149
  g3 := by kernel_rfl
  g4 := by kernel_rfl }
open Go.RowKit in
theorem Tryd.strings_Trim_one (s : ByteArray) (c : UInt8) (hc : c.toNat < 128) (w : World) (hs : s.size ≤ 9223372036854775807) :
    Calls Tryd.prog 91 #[.string s, .string ⟨#[c]⟩] w fun e w' => e = .returned (.string ⟨(Lib.trimB s.data.toList c).toArray⟩) ∧ (w' = w ∨ w' = w.drew) := Any.strings_Trim_one Tryd.lays160 s c hc w hs
def Tryd.laysM173_ren : Go.Shelf.Ren := ⟨fun | 173 => 56 | 246 => 74 | 283 => 84 | 284 => 85 | 285 => 86 | 286 => 87 | 129 => 94 | 317 => 93 | 318 => 95 | 319 => 96 | 320 => 97 | 337 => 106 | 338 => 107 | n => n, fun | 2 => 2 | 3 => 3 | 9 => 9 | 4 => 4 | 171 => 115 | 0 => 0 | 53 => 116 | 37 => 23 | 5 => 5 | 173 => 119 | 212 => 127 | 51 => 128 | 20 => 20 | 213 => 129 | 46 => 84 | 232 => 143 | 233 => 144 | n => n, fun | 17 => 0 | 18 => 2 | 19 => 3 | n => n⟩
theorem Tryd.laysM173 : Go.Proofs.LaysM.n173 Tryd.prog Tryd.laysM173_ren := {
  mixed := by kernel_rfl
  f129 := Tryd.func94.trans (congrArg some (by kernel_rfl))
  f173 := Tryd.func56.trans (congrArg some (by kernel_rfl))
  f246 := Tryd.func74.trans (congrArg some (by kernel_rfl))
  f283 := Tryd.func84.trans (congrArg some (by kernel_rfl))
  f284 := Tryd.func85.trans (congrArg some (by kernel_rfl))
  f285 := Tryd.func86.trans (congrArg some (by kernel_rfl))
  f286 := Tryd.func87.trans (congrArg some (by kernel_rfl))
  f317 := Tryd.func93.trans (congrArg some (by kernel_rfl))
  f318 := Tryd.func95.trans (congrArg some (by kernel_rfl))
  f319 := Tryd.func96.trans (congrArg some (by kernel_rfl))
  f320 := Tryd.func97.trans (congrArg some (by kernel_rfl))
  f337 := Tryd.func106.trans (congrArg some (by kernel_rfl))
  f338 := Tryd.func107.trans (congrArg some (by kernel_rfl))
  t0 := Tryd.underlying0
  a0 := Tryd.isAgg0
  z0 := Tryd.sizeOf0
  v0 := Tryd.zeroValue0
  t2 := Tryd.underlying2
  a2 := Tryd.isAgg2
  z2 := Tryd.sizeOf2
  v2 := Tryd.zeroValue2
  t3 := Tryd.underlying3
  a3 := Tryd.isAgg3
  z3 := Tryd.sizeOf3
  v3 := Tryd.zeroValue3
  t4 := Tryd.underlying4
  a4 := Tryd.isAgg4
  z4 := Tryd.sizeOf4
  v4 := Tryd.zeroValue4
  t5 := Tryd.underlying5
  a5 := Tryd.isAgg5
  z5 := Tryd.sizeOf5
  v5 := Tryd.zeroValue5
  t9 := Tryd.underlying9
  a9 := Tryd.isAgg9
  z9 := Tryd.sizeOf9
  v9 := Tryd.zeroValue9
  t20 := Tryd.underlying20
  a20 := Tryd.isAgg20
  z20 := Tryd.sizeOf20
  v20 := Tryd.zeroValue20
  t37 := Tryd.underlying23
  a37 := Tryd.isAgg23
  z37 := Tryd.sizeOf23
  v37 := Tryd.zeroValue23
  t46 := Tryd.underlying84
  a46 := Tryd.isAgg84
  z46 := Tryd.sizeOf84
  v46 := Tryd.zeroValue84
  t51 := Tryd.underlying128
  a51 := Tryd.isAgg128
  z51 := Tryd.sizeOf128
  v51 := Tryd.zeroValue128
  t53 := Tryd.underlying116
  a53 := Tryd.isAgg116
  z53 := Tryd.sizeOf116
  v53 := Tryd.zeroValue116
  t171 := Tryd.underlying115
  a171 := Tryd.isAgg115
  z171 := Tryd.sizeOf115
  v171 := Tryd.zeroValue115
  t173 := Tryd.underlying119
  a173 := Tryd.isAgg119
  z173 := Tryd.sizeOf119
  v173 := Tryd.zeroValue119
  t212 := Tryd.underlying127
  a212 := Tryd.isAgg127
  z212 := Tryd.sizeOf127
  v212 := Tryd.zeroValue127
  t213 := Tryd.underlying129
  a213 := Tryd.isAgg129
  z213 := Tryd.sizeOf129
  t232 := Tryd.underlying143
  a232 := Tryd.isAgg143
  z232 := Tryd.sizeOf143
  v232 := Tryd.zeroValue143
  t233 := Tryd.underlying144
  a233 := Tryd.isAgg144
  z233 := Tryd.sizeOf144
  v233 := Tryd.zeroValue144
  g17 := by kernel_rfl
  g18 := by kernel_rfl
  g19 := by kernel_rfl
  i0 := by kernel_rfl
  i2 := by kernel_rfl
  i3 := by kernel_rfl
  i4 := by kernel_rfl
  i5 := by kernel_rfl
  i9 := by kernel_rfl
  i20 := by kernel_rfl
  i37 := by kernel_rfl
  i46 := by kernel_rfl
  i51 := by kernel_rfl
  i53 := by kernel_rfl
  i171 := by kernel_rfl
  i173 := by kernel_rfl
  i212 := by kernel_rfl
  i232 := by kernel_rfl
  i233 := by kernel_rfl
  m17 := by kernel_rfl
  m18 := by kernel_rfl
  m19 := by kernel_rfl }
open Go.RowKit Go.Sort Go.Lib in
theorem Tryd.strconv_FormatInt_10 (n : Int) (h0 : -9223372036854775808 ≤ n) (h1 : n ≤ 9223372036854775807) (w : World) (htab : Lib.TabIs Tryd.prog w "internal/strconv.uint64pow10" .u64 Lib.pow10Tab) :
    Calls Tryd.prog 56 #[.int .i64 n, .int .i64 10] w fun e w' => e = .returned (.string ⟨(Lib.itoa n).toArray⟩) ∧ ∃ k os, w' = grow (w.drewN k) os := Any.strconv_FormatInt_10 Tryd.laysM173 n h0 h1 w htab
end Go.Proofs

namespace Go.Proofs.YtaolhgjnlmaooaaDoor
open Go Go.IW

set_option maxRecDepth 20000 in
theorem idxB_c (h : IH) (s : List UInt8) (c : UInt8) : ICalls Tryd.prog 105 [.str s, .int .u8 c.toNat] h fun r h' => r = .int .i64 (Lib.indexByte s c) ∧ h' = h := by
  have := idxByte_calls (P := Tryd.prog) (f := 105) Tryd.func105 (by kernel_rfl) (by kernel_rfl) (by kernel_rfl) (by kernel_rfl) h s c.toNat
  simpa using this
theorem idxS_at {s : List UInt8} {k : Nat} {q : IntKind} {b : UInt8} (hb : s[k]? = some b) : idxSF (.str s) (.int q (k : Int)) = some (.int .u8 b.toNat) :=
  idxSF_of (by omega) (by simpa using hb)

set_option maxRecDepth 20000 in
theorem sIndexByte_c (h : IH) (s : List UInt8) (c : UInt8) : ICalls Tryd.prog 92 [.str s, .int .u8 c.toNat] h fun r h' => r = .int .i64 (Lib.indexByte s c) ∧ h' = h := by
  refine icalls (.of ok92) (Nat.le_of_ble_eq_true rfl) ?_
  unfold c92
  simp only [go_sem, Hold.p, HoldK.k, HoldL.K, HoldL.body, Nat.reduceBEq, Nat.reduceAdd, List.getElem?_cons_zero, List.getElem?_cons_succ, Option.bind_some, List.map_cons, List.map_nil, Nat.zero_add, if_true, List.getD_cons_zero, List.getD_cons_succ, List.contains_cons, List.contains_nil, Nat.reduceBEq, Bool.or_true, Bool.true_or, Bool.or_false, Bool.false_or, Bool.not_true, Bool.not_false, true_and, and_true]
  refine callA_of (idxB_c h s c) ?_
  rintro r h' ⟨rfl, rfl⟩
  simp only [go_sem, Hold.p, HoldK.k, HoldL.K, HoldL.body, Nat.reduceBEq, Nat.reduceAdd, List.getElem?_cons_zero, List.getElem?_cons_succ, Option.bind_some, List.map_cons, List.map_nil, Nat.zero_add, if_true, List.getD_cons_zero, List.getD_cons_succ, List.contains_cons, List.contains_nil, Nat.reduceBEq, Bool.or_true, Bool.true_or, Bool.or_false, Bool.false_or, Bool.not_true, Bool.not_false, true_and, and_true]

end Go.Proofs.YtaolhgjnlmaooaaDoor

namespace Go.Proofs.YtaolhgjnlmaooaaDoor
open Go Go.IW

end Go.Proofs.YtaolhgjnlmaooaaDoor

namespace Go.Proofs.YtaolhgjnlmaooaaDoor
open Go Go.IW

end Go.Proofs.YtaolhgjnlmaooaaDoor

namespace Go.Proofs.YtaolhgjnlmaooaaDoor
open Go Go.IW

theorem strRows_append (a b : List UInt8) : strRows (a ++ b) = strRows a ++ strRows b := by simp [strRows]
theorem strRows_len (a : List UInt8) : (strRows a).length = a.length := by simp [strRows]
theorem strRows_at {a : List UInt8} {k : Nat} {b : UInt8} (h : a[k]? = some b) : (strRows a)[k]? = some [.int .u8 b.toNat] := by
  unfold strRows; rw [List.getElem?_map, h]; rfl

set_option maxRecDepth 20000 in
theorem l01Copy_c (h : IH) (v : IV) (bs : List UInt8) (hs : SlR h 1 v (strRows bs)) (hbl : bs.length ≤ 16777216) : ICalls Tryd.prog 78 [v] h fun r h' => Own h.n h'.n h' 5 1 r (strRows bs) ∧ Ext h h' := by
  refine icalls (.of ok78) (Nat.le_of_ble_eq_true rfl) ?_
  unfold c78
  have hlen := hs.lenF
  rw [strRows_len] at hlen
  simp only [go_sem, Hold.p, HoldK.k, HoldL.K, HoldL.body, Nat.reduceBEq, Nat.reduceAdd, List.getElem?_cons_zero, List.getElem?_cons_succ, Option.bind_some, List.map_cons, List.map_nil, Nat.zero_add, if_true, List.getD_cons_zero, List.getD_cons_succ, List.contains_cons, List.contains_nil, Nat.reduceBEq, Bool.or_true, Bool.true_or, Bool.or_false, Bool.false_or, Bool.not_true, Bool.not_false, true_and, and_true, rowA_whole, push_n, set_n, push_obj, set_obj, set_push, set_push_ne, set_set, Nat.add_assoc, Nat.left_eq_add, Nat.add_eq_left, Nat.add_left_cancel_iff, Nat.reduceEqDiff, stO_1s, stO_ws, boxA_s, one_bool, one_int, one_str, one_ptr, one_nilptr, one_slice, one_eslice, one_nilslice, one_func, one_iface, one_niliface, List.all_cons, List.all_nil, List.length_cons, List.length_nil, Nat.reduceLT, Nat.reduceEqDiff, Nat.reduceLeDiff, Bool.and_true, Nat.one_ne_zero, Nat.succ_ne_zero, reduceIte, if_false, List.getElem?_cons_zero, List.set_cons_zero, List.set_cons_succ]
  refine loop_at (fun n e g => ∃ (x : IV) (lo hi k : Nat), n = bs.length - k ∧ k ≤ bs.length ∧ e 0 = v ∧ e 3 = x ∧ e 4 = .int .i64 (k : Nat) ∧ Ext h g ∧ h.n ≤ lo ∧ hi ≤ g.n ∧ Own lo hi g 5 1 x (strRows (bs.take k))) bs.length ?_ ?_
  · refine ⟨.eslice true, h.n, h.n, 0, by omega, by omega, ?_⟩
    simp only [go_sem, Hold.p, HoldK.k, HoldL.K, HoldL.body, Nat.reduceBEq, Nat.reduceAdd, List.getElem?_cons_zero, List.getElem?_cons_succ, Option.bind_some, List.map_cons, List.map_nil, Nat.zero_add, if_true, List.getD_cons_zero, List.getD_cons_succ, List.contains_cons, List.contains_nil, Nat.reduceBEq, Bool.or_true, Bool.true_or, Bool.or_false, Bool.false_or, Bool.not_true, Bool.not_false, true_and, and_true, rowA_whole, push_n, set_n, push_obj, set_obj, set_push, set_push_ne, set_set, Nat.add_assoc, Nat.left_eq_add, Nat.add_eq_left, Nat.add_left_cancel_iff, Nat.reduceEqDiff, stO_1s, stO_ws, boxA_s, one_bool, one_int, one_str, one_ptr, one_nilptr, one_slice, one_eslice, one_nilslice, one_func, one_iface, one_niliface, List.all_cons, List.all_nil, List.length_cons, List.length_nil, Nat.reduceLT, Nat.reduceEqDiff, Nat.reduceLeDiff, Bool.and_true, Nat.one_ne_zero, Nat.succ_ne_zero, reduceIte, if_false, List.getElem?_cons_zero, List.set_cons_zero, List.set_cons_succ]
    exact ⟨rfl, Ext.refl _, Nat.le_refl _, Nat.le_refl _, Own.empty⟩
  · rintro n e g ⟨x, lo, hi, k, rfl, hk, i0, i3, i4, E, hlo, hhi, o⟩
    have hle := E.le
    simp only [i0, i3, i4, hlen, go_sem, Hold.p, HoldK.k, HoldL.K, HoldL.body, Nat.reduceBEq, Nat.reduceAdd, List.getElem?_cons_zero, List.getElem?_cons_succ, Option.bind_some, List.map_cons, List.map_nil, Nat.zero_add, if_true, List.getD_cons_zero, List.getD_cons_succ, List.contains_cons, List.contains_nil, Nat.reduceBEq, Bool.or_true, Bool.true_or, Bool.or_false, Bool.false_or, Bool.not_true, Bool.not_false, true_and, and_true, rowA_whole, push_n, set_n, push_obj, set_obj, set_push, set_push_ne, set_set, Nat.add_assoc, Nat.left_eq_add, Nat.add_eq_left, Nat.add_left_cancel_iff, Nat.reduceEqDiff, stO_1s, stO_ws, boxA_s, one_bool, one_int, one_str, one_ptr, one_nilptr, one_slice, one_eslice, one_nilslice, one_func, one_iface, one_niliface, List.all_cons, List.all_nil, List.length_cons, List.length_nil, Nat.reduceLT, Nat.reduceEqDiff, Nat.reduceLeDiff, Bool.and_true, Nat.one_ne_zero, Nat.succ_ne_zero, reduceIte, if_false, List.getElem?_cons_zero, List.set_cons_zero, List.set_cons_succ]
    refine test_dec (fun hlt => ?_) (fun hlt => ?_)
    · have hlt' : k < bs.length := by omega
      have hkp : bs[k]? = some bs[k] := List.getElem?_eq_getElem hlt'
      generalize bs[k] = b at hkp
      obtain ⟨l, j, hia, hll, hrow⟩ := (hs.ext E).at (m := k) (strRows_at hkp) .i64
      have hc := cellO_row hrow
      simp only [i0, i3, i4, hia, hc, go_sem, Hold.p, HoldK.k, HoldL.K, HoldL.body, Nat.reduceBEq, Nat.reduceAdd, List.getElem?_cons_zero, List.getElem?_cons_succ, Option.bind_some, List.map_cons, List.map_nil, Nat.zero_add, if_true, List.getD_cons_zero, List.getD_cons_succ, List.contains_cons, List.contains_nil, Nat.reduceBEq, Bool.or_true, Bool.true_or, Bool.or_false, Bool.false_or, Bool.not_true, Bool.not_false, true_and, and_true, rowA_whole, push_n, set_n, push_obj, set_obj, set_push, set_push_ne, set_set, Nat.add_assoc, Nat.left_eq_add, Nat.add_eq_left, Nat.add_left_cancel_iff, Nat.reduceEqDiff, stO_1s, stO_ws, boxA_s, one_bool, one_int, one_str, one_ptr, one_nilptr, one_slice, one_eslice, one_nilslice, one_func, one_iface, one_niliface, List.all_cons, List.all_nil, List.length_cons, List.length_nil, Nat.reduceLT, Nat.reduceEqDiff, Nat.reduceLeDiff, Bool.and_true, Nat.one_ne_zero, Nat.succ_ne_zero, reduceIte, if_false, List.getElem?_cons_zero, List.set_cons_zero, List.set_cons_succ]
      generalize hq_g1 : IH.push g (IObj.rows [[.int .u8 b.toNat]] 5 1 false) = g1
      have e_g1 : Ext g g1 := by rw [← hq_g1]; exact (Ext.refl _).push _
      have l_g1 : g1.n = g.n + 1 := by rw [← hq_g1]; rfl
      have ba : At g1 g.n (IObj.rows [[.int .u8 b.toNat]] 5 1 false) := by rw [← hq_g1]; exact At.new _ _
      clear hq_g1
      have o := o.ext e_g1
      have E := E.ext e_g1
      refine o.app (by simp) (by rw [strRows_len]; simp; omega) ?_
      intro v6 h6 o6 t6 n6 v6o v6c
      have E := E.turn o (by omega) t6
      have le_t6 := t6.le
      simp only [i0, i3, i4, go_sem, Hold.p, HoldK.k, HoldL.K, HoldL.body, Nat.reduceBEq, Nat.reduceAdd, List.getElem?_cons_zero, List.getElem?_cons_succ, Option.bind_some, List.map_cons, List.map_nil, Nat.zero_add, if_true, List.getD_cons_zero, List.getD_cons_succ, List.contains_cons, List.contains_nil, Nat.reduceBEq, Bool.or_true, Bool.true_or, Bool.or_false, Bool.false_or, Bool.not_true, Bool.not_false, true_and, and_true, rowA_whole, push_n, set_n, push_obj, set_obj, set_push, set_push_ne, set_set, Nat.add_assoc, Nat.left_eq_add, Nat.add_eq_left, Nat.add_left_cancel_iff, Nat.reduceEqDiff, stO_1s, stO_ws, boxA_s, one_bool, one_int, one_str, one_ptr, one_nilptr, one_slice, one_eslice, one_nilslice, one_func, one_iface, one_niliface, List.all_cons, List.all_nil, List.length_cons, List.length_nil, Nat.reduceLT, Nat.reduceEqDiff, Nat.reduceLeDiff, Bool.and_true, Nat.one_ne_zero, Nat.succ_ne_zero, reduceIte, if_false, List.getElem?_cons_zero, List.set_cons_zero, List.set_cons_succ]
      refine ⟨_, ?_, v6, g1.n, g1.n + 1, k + 1, rfl, by omega, rfl, wr64_succ k (by omega), E, by omega, by omega, ?_⟩
      · omega
      · rw [List.take_add_one, hkp, strRows_append]; exact o6
    · obtain rfl : k = bs.length := by omega
      rw [List.take_length] at o
      simp only [i3, go_sem, Hold.p, HoldK.k, HoldL.K, HoldL.body, Nat.reduceBEq, Nat.reduceAdd, List.getElem?_cons_zero, List.getElem?_cons_succ, Option.bind_some, List.map_cons, List.map_nil, Nat.zero_add, if_true, List.getD_cons_zero, List.getD_cons_succ, List.contains_cons, List.contains_nil, Nat.reduceBEq, Bool.or_true, Bool.true_or, Bool.or_false, Bool.false_or, Bool.not_true, Bool.not_false, true_and, and_true, rowA_whole, push_n, set_n, push_obj, set_obj, set_push, set_push_ne, set_set, Nat.add_assoc, Nat.left_eq_add, Nat.add_eq_left, Nat.add_left_cancel_iff, Nat.reduceEqDiff, stO_1s, stO_ws, boxA_s, one_bool, one_int, one_str, one_ptr, one_nilptr, one_slice, one_eslice, one_nilslice, one_func, one_iface, one_niliface, List.all_cons, List.all_nil, List.length_cons, List.length_nil, Nat.reduceLT, Nat.reduceEqDiff, Nat.reduceLeDiff, Bool.and_true, Nat.one_ne_zero, Nat.succ_ne_zero, reduceIte, if_false, List.getElem?_cons_zero, List.set_cons_zero, List.set_cons_succ]
      exact ⟨o.wide hlo hhi (Nat.le_refl _), E⟩

set_option maxRecDepth 20000 in
theorem l01Join_c (h : IH) (v w : IV) (az bs : List UInt8) (hv : SlR h 1 v (strRows az)) (hw : SlR h 1 w (strRows bs)) (hal : az.length ≤ 8388608) (hbl : bs.length ≤ 8388608) : ICalls Tryd.prog 65 [v, w] h fun r h' => Own h.n h'.n h' 5 1 r (strRows (az ++ bs)) ∧ Ext h h' := by
  refine icalls (.of ok65) (Nat.le_of_ble_eq_true rfl) ?_
  unfold c65
  have hlen := hw.lenF
  rw [strRows_len] at hlen
  simp only [go_sem, Hold.p, HoldK.k, HoldL.K, HoldL.body, Nat.reduceBEq, Nat.reduceAdd, List.getElem?_cons_zero, List.getElem?_cons_succ, Option.bind_some, List.map_cons, List.map_nil, Nat.zero_add, if_true, List.getD_cons_zero, List.getD_cons_succ, List.contains_cons, List.contains_nil, Nat.reduceBEq, Bool.or_true, Bool.true_or, Bool.or_false, Bool.false_or, Bool.not_true, Bool.not_false, true_and, and_true, rowA_whole, push_n, set_n, push_obj, set_obj, set_push, set_push_ne, set_set, Nat.add_assoc, Nat.left_eq_add, Nat.add_eq_left, Nat.add_left_cancel_iff, Nat.reduceEqDiff, stO_1s, stO_ws, boxA_s, one_bool, one_int, one_str, one_ptr, one_nilptr, one_slice, one_eslice, one_nilslice, one_func, one_iface, one_niliface, List.all_cons, List.all_nil, List.length_cons, List.length_nil, Nat.reduceLT, Nat.reduceEqDiff, Nat.reduceLeDiff, Bool.and_true, Nat.one_ne_zero, Nat.succ_ne_zero, reduceIte, if_false, List.getElem?_cons_zero, List.set_cons_zero, List.set_cons_succ]
  refine callA_of (l01Copy_c h v az hv (by omega)) ?_
  rintro x0 h1 ⟨o0, E0⟩
  simp only [go_sem, Hold.p, HoldK.k, HoldL.K, HoldL.body, Nat.reduceBEq, Nat.reduceAdd, List.getElem?_cons_zero, List.getElem?_cons_succ, Option.bind_some, List.map_cons, List.map_nil, Nat.zero_add, if_true, List.getD_cons_zero, List.getD_cons_succ, List.contains_cons, List.contains_nil, Nat.reduceBEq, Bool.or_true, Bool.true_or, Bool.or_false, Bool.false_or, Bool.not_true, Bool.not_false, true_and, and_true, rowA_whole, push_n, set_n, push_obj, set_obj, set_push, set_push_ne, set_set, Nat.add_assoc, Nat.left_eq_add, Nat.add_eq_left, Nat.add_left_cancel_iff, Nat.reduceEqDiff, stO_1s, stO_ws, boxA_s, one_bool, one_int, one_str, one_ptr, one_nilptr, one_slice, one_eslice, one_nilslice, one_func, one_iface, one_niliface, List.all_cons, List.all_nil, List.length_cons, List.length_nil, Nat.reduceLT, Nat.reduceEqDiff, Nat.reduceLeDiff, Bool.and_true, Nat.one_ne_zero, Nat.succ_ne_zero, reduceIte, if_false, List.getElem?_cons_zero, List.set_cons_zero, List.set_cons_succ]
  have hle0 := E0.le
  refine loop_at (fun n e g => ∃ (x : IV) (lo hi k : Nat), n = bs.length - k ∧ k ≤ bs.length ∧ e 1 = w ∧ e 5 = x ∧ e 6 = .int .i64 (k : Nat) ∧ Ext h g ∧ h.n ≤ lo ∧ hi ≤ g.n ∧ Own lo hi g 5 1 x (strRows (az ++ bs.take k))) bs.length ?_ ?_
  · refine ⟨x0, h.n, h1.n, 0, by omega, by omega, ?_⟩
    simp only [go_sem, Hold.p, HoldK.k, HoldL.K, HoldL.body, Nat.reduceBEq, Nat.reduceAdd, List.getElem?_cons_zero, List.getElem?_cons_succ, Option.bind_some, List.map_cons, List.map_nil, Nat.zero_add, if_true, List.getD_cons_zero, List.getD_cons_succ, List.contains_cons, List.contains_nil, Nat.reduceBEq, Bool.or_true, Bool.true_or, Bool.or_false, Bool.false_or, Bool.not_true, Bool.not_false, true_and, and_true, rowA_whole, push_n, set_n, push_obj, set_obj, set_push, set_push_ne, set_set, Nat.add_assoc, Nat.left_eq_add, Nat.add_eq_left, Nat.add_left_cancel_iff, Nat.reduceEqDiff, stO_1s, stO_ws, boxA_s, one_bool, one_int, one_str, one_ptr, one_nilptr, one_slice, one_eslice, one_nilslice, one_func, one_iface, one_niliface, List.all_cons, List.all_nil, List.length_cons, List.length_nil, Nat.reduceLT, Nat.reduceEqDiff, Nat.reduceLeDiff, Bool.and_true, Nat.one_ne_zero, Nat.succ_ne_zero, reduceIte, if_false, List.getElem?_cons_zero, List.set_cons_zero, List.set_cons_succ]
    exact ⟨rfl, E0, Nat.le_refl _, Nat.le_refl _, by simpa using o0⟩
  · rintro n e g ⟨x, lo, hi, k, rfl, hk, i1, i5, i6, E, hlo, hhi, o⟩
    have hle := E.le
    simp only [i1, i5, i6, hlen, go_sem, Hold.p, HoldK.k, HoldL.K, HoldL.body, Nat.reduceBEq, Nat.reduceAdd, List.getElem?_cons_zero, List.getElem?_cons_succ, Option.bind_some, List.map_cons, List.map_nil, Nat.zero_add, if_true, List.getD_cons_zero, List.getD_cons_succ, List.contains_cons, List.contains_nil, Nat.reduceBEq, Bool.or_true, Bool.true_or, Bool.or_false, Bool.false_or, Bool.not_true, Bool.not_false, true_and, and_true, rowA_whole, push_n, set_n, push_obj, set_obj, set_push, set_push_ne, set_set, Nat.add_assoc, Nat.left_eq_add, Nat.add_eq_left, Nat.add_left_cancel_iff, Nat.reduceEqDiff, stO_1s, stO_ws, boxA_s, one_bool, one_int, one_str, one_ptr, one_nilptr, one_slice, one_eslice, one_nilslice, one_func, one_iface, one_niliface, List.all_cons, List.all_nil, List.length_cons, List.length_nil, Nat.reduceLT, Nat.reduceEqDiff, Nat.reduceLeDiff, Bool.and_true, Nat.one_ne_zero, Nat.succ_ne_zero, reduceIte, if_false, List.getElem?_cons_zero, List.set_cons_zero, List.set_cons_succ]
    refine test_dec (fun hlt => ?_) (fun hlt => ?_)
    · have hlt' : k < bs.length := by omega
      have hkp : bs[k]? = some bs[k] := List.getElem?_eq_getElem hlt'
      generalize bs[k] = b at hkp
      obtain ⟨l, j, hia, hll, hrow⟩ := (hw.ext E).at (m := k) (strRows_at hkp) .i64
      have hc := cellO_row hrow
      simp only [i1, i5, i6, hia, hc, go_sem, Hold.p, HoldK.k, HoldL.K, HoldL.body, Nat.reduceBEq, Nat.reduceAdd, List.getElem?_cons_zero, List.getElem?_cons_succ, Option.bind_some, List.map_cons, List.map_nil, Nat.zero_add, if_true, List.getD_cons_zero, List.getD_cons_succ, List.contains_cons, List.contains_nil, Nat.reduceBEq, Bool.or_true, Bool.true_or, Bool.or_false, Bool.false_or, Bool.not_true, Bool.not_false, true_and, and_true, rowA_whole, push_n, set_n, push_obj, set_obj, set_push, set_push_ne, set_set, Nat.add_assoc, Nat.left_eq_add, Nat.add_eq_left, Nat.add_left_cancel_iff, Nat.reduceEqDiff, stO_1s, stO_ws, boxA_s, one_bool, one_int, one_str, one_ptr, one_nilptr, one_slice, one_eslice, one_nilslice, one_func, one_iface, one_niliface, List.all_cons, List.all_nil, List.length_cons, List.length_nil, Nat.reduceLT, Nat.reduceEqDiff, Nat.reduceLeDiff, Bool.and_true, Nat.one_ne_zero, Nat.succ_ne_zero, reduceIte, if_false, List.getElem?_cons_zero, List.set_cons_zero, List.set_cons_succ]
      generalize hq_g1 : IH.push g (IObj.rows [[.int .u8 b.toNat]] 5 1 false) = g1
      have e_g1 : Ext g g1 := by rw [← hq_g1]; exact (Ext.refl _).push _
      have l_g1 : g1.n = g.n + 1 := by rw [← hq_g1]; rfl
      have ba : At g1 g.n (IObj.rows [[.int .u8 b.toNat]] 5 1 false) := by rw [← hq_g1]; exact At.new _ _
      clear hq_g1
      have o := o.ext e_g1
      have E := E.ext e_g1
      refine o.app (by simp) (by rw [strRows_len]; simp; omega) ?_
      intro v6 h6 o6 t6 n6 v6o v6c
      have E := E.turn o (by omega) t6
      have le_t6 := t6.le
      simp only [i1, i5, i6, go_sem, Hold.p, HoldK.k, HoldL.K, HoldL.body, Nat.reduceBEq, Nat.reduceAdd, List.getElem?_cons_zero, List.getElem?_cons_succ, Option.bind_some, List.map_cons, List.map_nil, Nat.zero_add, if_true, List.getD_cons_zero, List.getD_cons_succ, List.contains_cons, List.contains_nil, Nat.reduceBEq, Bool.or_true, Bool.true_or, Bool.or_false, Bool.false_or, Bool.not_true, Bool.not_false, true_and, and_true, rowA_whole, push_n, set_n, push_obj, set_obj, set_push, set_push_ne, set_set, Nat.add_assoc, Nat.left_eq_add, Nat.add_eq_left, Nat.add_left_cancel_iff, Nat.reduceEqDiff, stO_1s, stO_ws, boxA_s, one_bool, one_int, one_str, one_ptr, one_nilptr, one_slice, one_eslice, one_nilslice, one_func, one_iface, one_niliface, List.all_cons, List.all_nil, List.length_cons, List.length_nil, Nat.reduceLT, Nat.reduceEqDiff, Nat.reduceLeDiff, Bool.and_true, Nat.one_ne_zero, Nat.succ_ne_zero, reduceIte, if_false, List.getElem?_cons_zero, List.set_cons_zero, List.set_cons_succ]
      refine ⟨_, ?_, v6, g1.n, g1.n + 1, k + 1, rfl, by omega, rfl, wr64_succ k (by omega), E, by omega, by omega, ?_⟩
      · omega
      · rw [List.take_add_one, hkp, ← List.append_assoc, strRows_append]; exact o6
    · obtain rfl : k = bs.length := by omega
      rw [List.take_length] at o
      simp only [i5, go_sem, Hold.p, HoldK.k, HoldL.K, HoldL.body, Nat.reduceBEq, Nat.reduceAdd, List.getElem?_cons_zero, List.getElem?_cons_succ, Option.bind_some, List.map_cons, List.map_nil, Nat.zero_add, if_true, List.getD_cons_zero, List.getD_cons_succ, List.contains_cons, List.contains_nil, Nat.reduceBEq, Bool.or_true, Bool.true_or, Bool.or_false, Bool.false_or, Bool.not_true, Bool.not_false, true_and, and_true, rowA_whole, push_n, set_n, push_obj, set_obj, set_push, set_push_ne, set_set, Nat.add_assoc, Nat.left_eq_add, Nat.add_eq_left, Nat.add_left_cancel_iff, Nat.reduceEqDiff, stO_1s, stO_ws, boxA_s, one_bool, one_int, one_str, one_ptr, one_nilptr, one_slice, one_eslice, one_nilslice, one_func, one_iface, one_niliface, List.all_cons, List.all_nil, List.length_cons, List.length_nil, Nat.reduceLT, Nat.reduceEqDiff, Nat.reduceLeDiff, Bool.and_true, Nat.one_ne_zero, Nat.succ_ne_zero, reduceIte, if_false, List.getElem?_cons_zero, List.set_cons_zero, List.set_cons_succ]
      exact ⟨o.wide hlo hhi (Nat.le_refl _), E⟩

end Go.Proofs.YtaolhgjnlmaooaaDoor

namespace Go.Proofs.YtaolhgjnlmaooaaDoor
open Go Go.IW

end Go.Proofs.YtaolhgjnlmaooaaDoor

namespace Go.Proofs.YtaolhgjnlmaooaaDoor
open Go Go.IW

/-- A byte that is written as it is. -/
def plainB (b : UInt8) : Bool := (decide (97 ≤ (b.toNat : Int)) && decide ((b.toNat : Int) ≤ 122)) || (decide (65 ≤ (b.toNat : Int)) && decide ((b.toNat : Int) ≤ 90)) || (decide (48 ≤ (b.toNat : Int)) && decide ((b.toNat : Int) ≤ 57)) || decide ((b.toNat : Int) = 46) || decide ((b.toNat : Int) = 45) || decide ((b.toNat : Int) = 95) || decide ((b.toNat : Int) = 47) || decide ((b.toNat : Int) = 58)
set_option maxRecDepth 20000 in
theorem l20Plain_c (h : IH) (b : UInt8) : ICalls Tryd.prog 82 [.int .u8 b.toNat] h fun r h' => r = .bool (plainB b) ∧ h' = h := by
  refine icalls (.of ok82) (Nat.le_of_ble_eq_true rfl) ?_
  unfold c82 plainB
  cases d0 : decide (97 ≤ (b.toNat : Int))
  · skip
    cases d1 : decide (65 ≤ (b.toNat : Int))
    · skip
      cases d2 : decide (48 ≤ (b.toNat : Int))
      · skip
        cases d3 : decide ((b.toNat : Int) = 46)
        · skip
          cases d4 : decide ((b.toNat : Int) = 45)
          · skip
            cases d5 : decide ((b.toNat : Int) = 95)
            · skip
              cases d6 : decide ((b.toNat : Int) = 47)
              · skip
                cases d7 : decide ((b.toNat : Int) = 58)
                · skip
                  simp only [d0, d1, d2, d3, d4, d5, d6, d7, Bool.true_and, Bool.false_and, Bool.and_true, Bool.and_false, Bool.true_or, Bool.false_or, Bool.or_true, Bool.or_false, go_sem, Hold.p, HoldK.k, HoldL.K, HoldL.body, Nat.reduceBEq, Nat.reduceAdd, List.getElem?_cons_zero, List.getElem?_cons_succ, Option.bind_some, List.map_cons, List.map_nil, Nat.zero_add, if_true, List.getD_cons_zero, List.getD_cons_succ, List.contains_cons, List.contains_nil, Nat.reduceBEq, Bool.or_true, Bool.true_or, Bool.or_false, Bool.false_or, Bool.not_true, Bool.not_false, true_and, and_true]
                · skip
                  simp only [d0, d1, d2, d3, d4, d5, d6, d7, Bool.true_and, Bool.false_and, Bool.and_true, Bool.and_false, Bool.true_or, Bool.false_or, Bool.or_true, Bool.or_false, go_sem, Hold.p, HoldK.k, HoldL.K, HoldL.body, Nat.reduceBEq, Nat.reduceAdd, List.getElem?_cons_zero, List.getElem?_cons_succ, Option.bind_some, List.map_cons, List.map_nil, Nat.zero_add, if_true, List.getD_cons_zero, List.getD_cons_succ, List.contains_cons, List.contains_nil, Nat.reduceBEq, Bool.or_true, Bool.true_or, Bool.or_false, Bool.false_or, Bool.not_true, Bool.not_false, true_and, and_true]
              · skip
                simp only [d0, d1, d2, d3, d4, d5, d6, Bool.true_and, Bool.false_and, Bool.and_true, Bool.and_false, Bool.true_or, Bool.false_or, Bool.or_true, Bool.or_false, go_sem, Hold.p, HoldK.k, HoldL.K, HoldL.body, Nat.reduceBEq, Nat.reduceAdd, List.getElem?_cons_zero, List.getElem?_cons_succ, Option.bind_some, List.map_cons, List.map_nil, Nat.zero_add, if_true, List.getD_cons_zero, List.getD_cons_succ, List.contains_cons, List.contains_nil, Nat.reduceBEq, Bool.or_true, Bool.true_or, Bool.or_false, Bool.false_or, Bool.not_true, Bool.not_false, true_and, and_true]
            · skip
              simp only [d0, d1, d2, d3, d4, d5, Bool.true_and, Bool.false_and, Bool.and_true, Bool.and_false, Bool.true_or, Bool.false_or, Bool.or_true, Bool.or_false, go_sem, Hold.p, HoldK.k, HoldL.K, HoldL.body, Nat.reduceBEq, Nat.reduceAdd, List.getElem?_cons_zero, List.getElem?_cons_succ, Option.bind_some, List.map_cons, List.map_nil, Nat.zero_add, if_true, List.getD_cons_zero, List.getD_cons_succ, List.contains_cons, List.contains_nil, Nat.reduceBEq, Bool.or_true, Bool.true_or, Bool.or_false, Bool.false_or, Bool.not_true, Bool.not_false, true_and, and_true]
          · skip
            simp only [d0, d1, d2, d3, d4, Bool.true_and, Bool.false_and, Bool.and_true, Bool.and_false, Bool.true_or, Bool.false_or, Bool.or_true, Bool.or_false, go_sem, Hold.p, HoldK.k, HoldL.K, HoldL.body, Nat.reduceBEq, Nat.reduceAdd, List.getElem?_cons_zero, List.getElem?_cons_succ, Option.bind_some, List.map_cons, List.map_nil, Nat.zero_add, if_true, List.getD_cons_zero, List.getD_cons_succ, List.contains_cons, List.contains_nil, Nat.reduceBEq, Bool.or_true, Bool.true_or, Bool.or_false, Bool.false_or, Bool.not_true, Bool.not_false, true_and, and_true]
        · skip
          simp only [d0, d1, d2, d3, Bool.true_and, Bool.false_and, Bool.and_true, Bool.and_false, Bool.true_or, Bool.false_or, Bool.or_true, Bool.or_false, go_sem, Hold.p, HoldK.k, HoldL.K, HoldL.body, Nat.reduceBEq, Nat.reduceAdd, List.getElem?_cons_zero, List.getElem?_cons_succ, Option.bind_some, List.map_cons, List.map_nil, Nat.zero_add, if_true, List.getD_cons_zero, List.getD_cons_succ, List.contains_cons, List.contains_nil, Nat.reduceBEq, Bool.or_true, Bool.true_or, Bool.or_false, Bool.false_or, Bool.not_true, Bool.not_false, true_and, and_true]
      · cases d3 : decide ((b.toNat : Int) ≤ 57)
        · skip
          cases d4 : decide ((b.toNat : Int) = 46)
          · skip
            cases d5 : decide ((b.toNat : Int) = 45)
            · skip
              cases d6 : decide ((b.toNat : Int) = 95)
              · skip
                cases d7 : decide ((b.toNat : Int) = 47)
                · skip
                  cases d8 : decide ((b.toNat : Int) = 58)
                  · skip
                    simp only [d0, d1, d2, d3, d4, d5, d6, d7, d8, Bool.true_and, Bool.false_and, Bool.and_true, Bool.and_false, Bool.true_or, Bool.false_or, Bool.or_true, Bool.or_false, go_sem, Hold.p, HoldK.k, HoldL.K, HoldL.body, Nat.reduceBEq, Nat.reduceAdd, List.getElem?_cons_zero, List.getElem?_cons_succ, Option.bind_some, List.map_cons, List.map_nil, Nat.zero_add, if_true, List.getD_cons_zero, List.getD_cons_succ, List.contains_cons, List.contains_nil, Nat.reduceBEq, Bool.or_true, Bool.true_or, Bool.or_false, Bool.false_or, Bool.not_true, Bool.not_false, true_and, and_true]
                  · skip
                    simp only [d0, d1, d2, d3, d4, d5, d6, d7, d8, Bool.true_and, Bool.false_and, Bool.and_true, Bool.and_false, Bool.true_or, Bool.false_or, Bool.or_true, Bool.or_false, go_sem, Hold.p, HoldK.k, HoldL.K, HoldL.body, Nat.reduceBEq, Nat.reduceAdd, List.getElem?_cons_zero, List.getElem?_cons_succ, Option.bind_some, List.map_cons, List.map_nil, Nat.zero_add, if_true, List.getD_cons_zero, List.getD_cons_succ, List.contains_cons, List.contains_nil, Nat.reduceBEq, Bool.or_true, Bool.true_or, Bool.or_false, Bool.false_or, Bool.not_true, Bool.not_false, true_and, and_true]
                · skip
                  simp only [d0, d1, d2, d3, d4, d5, d6, d7, Bool.true_and, Bool.false_and, Bool.and_true, Bool.and_false, Bool.true_or, Bool.false_or, Bool.or_true, Bool.or_false, go_sem, Hold.p, HoldK.k, HoldL.K, HoldL.body, Nat.reduceBEq, Nat.reduceAdd, List.getElem?_cons_zero, List.getElem?_cons_succ, Option.bind_some, List.map_cons, List.map_nil, Nat.zero_add, if_true, List.getD_cons_zero, List.getD_cons_succ, List.contains_cons, List.contains_nil, Nat.reduceBEq, Bool.or_true, Bool.true_or, Bool.or_false, Bool.false_or, Bool.not_true, Bool.not_false, true_and, and_true]
              · skip
                simp only [d0, d1, d2, d3, d4, d5, d6, Bool.true_and, Bool.false_and, Bool.and_true, Bool.and_false, Bool.true_or, Bool.false_or, Bool.or_true, Bool.or_false, go_sem, Hold.p, HoldK.k, HoldL.K, HoldL.body, Nat.reduceBEq, Nat.reduceAdd, List.getElem?_cons_zero, List.getElem?_cons_succ, Option.bind_some, List.map_cons, List.map_nil, Nat.zero_add, if_true, List.getD_cons_zero, List.getD_cons_succ, List.contains_cons, List.contains_nil, Nat.reduceBEq, Bool.or_true, Bool.true_or, Bool.or_false, Bool.false_or, Bool.not_true, Bool.not_false, true_and, and_true]
            · skip
              simp only [d0, d1, d2, d3, d4, d5, Bool.true_and, Bool.false_and, Bool.and_true, Bool.and_false, Bool.true_or, Bool.false_or, Bool.or_true, Bool.or_false, go_sem, Hold.p, HoldK.k, HoldL.K, HoldL.body, Nat.reduceBEq, Nat.reduceAdd, List.getElem?_cons_zero, List.getElem?_cons_succ, Option.bind_some, List.map_cons, List.map_nil, Nat.zero_add, if_true, List.getD_cons_zero, List.getD_cons_succ, List.contains_cons, List.contains_nil, Nat.reduceBEq, Bool.or_true, Bool.true_or, Bool.or_false, Bool.false_or, Bool.not_true, Bool.not_false, true_and, and_true]
          · skip
            simp only [d0, d1, d2, d3, d4, Bool.true_and, Bool.false_and, Bool.and_true, Bool.and_false, Bool.true_or, Bool.false_or, Bool.or_true, Bool.or_false, go_sem, Hold.p, HoldK.k, HoldL.K, HoldL.body, Nat.reduceBEq, Nat.reduceAdd, List.getElem?_cons_zero, List.getElem?_cons_succ, Option.bind_some, List.map_cons, List.map_nil, Nat.zero_add, if_true, List.getD_cons_zero, List.getD_cons_succ, List.contains_cons, List.contains_nil, Nat.reduceBEq, Bool.or_true, Bool.true_or, Bool.or_false, Bool.false_or, Bool.not_true, Bool.not_false, true_and, and_true]
        · skip
          simp only [d0, d1, d2, d3, Bool.true_and, Bool.false_and, Bool.and_true, Bool.and_false, Bool.true_or, Bool.false_or, Bool.or_true, Bool.or_false, go_sem, Hold.p, HoldK.k, HoldL.K, HoldL.body, Nat.reduceBEq, Nat.reduceAdd, List.getElem?_cons_zero, List.getElem?_cons_succ, Option.bind_some, List.map_cons, List.map_nil, Nat.zero_add, if_true, List.getD_cons_zero, List.getD_cons_succ, List.contains_cons, List.contains_nil, Nat.reduceBEq, Bool.or_true, Bool.true_or, Bool.or_false, Bool.false_or, Bool.not_true, Bool.not_false, true_and, and_true]
    · cases d2 : decide ((b.toNat : Int) ≤ 90)
      · skip
        cases d3 : decide (48 ≤ (b.toNat : Int))
        · skip
          cases d4 : decide ((b.toNat : Int) = 46)
          · skip
            cases d5 : decide ((b.toNat : Int) = 45)
            · skip
              cases d6 : decide ((b.toNat : Int) = 95)
              · skip
                cases d7 : decide ((b.toNat : Int) = 47)
                · skip
                  cases d8 : decide ((b.toNat : Int) = 58)
                  · skip
                    simp only [d0, d1, d2, d3, d4, d5, d6, d7, d8, Bool.true_and, Bool.false_and, Bool.and_true, Bool.and_false, Bool.true_or, Bool.false_or, Bool.or_true, Bool.or_false, go_sem, Hold.p, HoldK.k, HoldL.K, HoldL.body, Nat.reduceBEq, Nat.reduceAdd, List.getElem?_cons_zero, List.getElem?_cons_succ, Option.bind_some, List.map_cons, List.map_nil, Nat.zero_add, if_true, List.getD_cons_zero, List.getD_cons_succ, List.contains_cons, List.contains_nil, Nat.reduceBEq, Bool.or_true, Bool.true_or, Bool.or_false, Bool.false_or, Bool.not_true, Bool.not_false, true_and, and_true]
                  · skip
                    simp only [d0, d1, d2, d3, d4, d5, d6, d7, d8, Bool.true_and, Bool.false_and, Bool.and_true, Bool.and_false, Bool.true_or, Bool.false_or, Bool.or_true, Bool.or_false, go_sem, Hold.p, HoldK.k, HoldL.K, HoldL.body, Nat.reduceBEq, Nat.reduceAdd, List.getElem?_cons_zero, List.getElem?_cons_succ, Option.bind_some, List.map_cons, List.map_nil, Nat.zero_add, if_true, List.getD_cons_zero, List.getD_cons_succ, List.contains_cons, List.contains_nil, Nat.reduceBEq, Bool.or_true, Bool.true_or, Bool.or_false, Bool.false_or, Bool.not_true, Bool.not_false, true_and, and_true]
                · skip
                  simp only [d0, d1, d2, d3, d4, d5, d6, d7, Bool.true_and, Bool.false_and, Bool.and_true, Bool.and_false, Bool.true_or, Bool.false_or, Bool.or_true, Bool.or_false, go_sem, Hold.p, HoldK.k, HoldL.K, HoldL.body, Nat.reduceBEq, Nat.reduceAdd, List.getElem?_cons_zero, List.getElem?_cons_succ, Option.bind_some, List.map_cons, List.map_nil, Nat.zero_add, if_true, List.getD_cons_zero, List.getD_cons_succ, List.contains_cons, List.contains_nil, Nat.reduceBEq, Bool.or_true, Bool.true_or, Bool.or_false, Bool.false_or, Bool.not_true, Bool.not_false, true_and, and_true]
              · skip
                simp only [d0, d1, d2, d3, d4, d5, d6, Bool.true_and, Bool.false_and, Bool.and_true, Bool.and_false, Bool.true_or, Bool.false_or, Bool.or_true, Bool.or_false, go_sem, Hold.p, HoldK.k, HoldL.K, HoldL.body, Nat.reduceBEq, Nat.reduceAdd, List.getElem?_cons_zero, List.getElem?_cons_succ, Option.bind_some, List.map_cons, List.map_nil, Nat.zero_add, if_true, List.getD_cons_zero, List.getD_cons_succ, List.contains_cons, List.contains_nil, Nat.reduceBEq, Bool.or_true, Bool.true_or, Bool.or_false, Bool.false_or, Bool.not_true, Bool.not_false, true_and, and_true]
            · skip
              simp only [d0, d1, d2, d3, d4, d5, Bool.true_and, Bool.false_and, Bool.and_true, Bool.and_false, Bool.true_or, Bool.false_or, Bool.or_true, Bool.or_false, go_sem, Hold.p, HoldK.k, HoldL.K, HoldL.body, Nat.reduceBEq, Nat.reduceAdd, List.getElem?_cons_zero, List.getElem?_cons_succ, Option.bind_some, List.map_cons, List.map_nil, Nat.zero_add, if_true, List.getD_cons_zero, List.getD_cons_succ, List.contains_cons, List.contains_nil, Nat.reduceBEq, Bool.or_true, Bool.true_or, Bool.or_false, Bool.false_or, Bool.not_true, Bool.not_false, true_and, and_true]
          · skip
            simp only [d0, d1, d2, d3, d4, Bool.true_and, Bool.false_and, Bool.and_true, Bool.and_false, Bool.true_or, Bool.false_or, Bool.or_true, Bool.or_false, go_sem, Hold.p, HoldK.k, HoldL.K, HoldL.body, Nat.reduceBEq, Nat.reduceAdd, List.getElem?_cons_zero, List.getElem?_cons_succ, Option.bind_some, List.map_cons, List.map_nil, Nat.zero_add, if_true, List.getD_cons_zero, List.getD_cons_succ, List.contains_cons, List.contains_nil, Nat.reduceBEq, Bool.or_true, Bool.true_or, Bool.or_false, Bool.false_or, Bool.not_true, Bool.not_false, true_and, and_true]
        · cases d4 : decide ((b.toNat : Int) ≤ 57)
          · skip
            cases d5 : decide ((b.toNat : Int) = 46)
            · skip
              cases d6 : decide ((b.toNat : Int) = 45)
              · skip
                cases d7 : decide ((b.toNat : Int) = 95)
                · skip
                  cases d8 : decide ((b.toNat : Int) = 47)
                  · skip
                    cases d9 : decide ((b.toNat : Int) = 58)
                    · skip
                      simp only [d0, d1, d2, d3, d4, d5, d6, d7, d8, d9, Bool.true_and, Bool.false_and, Bool.and_true, Bool.and_false, Bool.true_or, Bool.false_or, Bool.or_true, Bool.or_false, go_sem, Hold.p, HoldK.k, HoldL.K, HoldL.body, Nat.reduceBEq, Nat.reduceAdd, List.getElem?_cons_zero, List.getElem?_cons_succ, Option.bind_some, List.map_cons, List.map_nil, Nat.zero_add, if_true, List.getD_cons_zero, List.getD_cons_succ, List.contains_cons, List.contains_nil, Nat.reduceBEq, Bool.or_true, Bool.true_or, Bool.or_false, Bool.false_or, Bool.not_true, Bool.not_false, true_and, and_true]
                    · skip
                      simp only [d0, d1, d2, d3, d4, d5, d6, d7, d8, d9, Bool.true_and, Bool.false_and, Bool.and_true, Bool.and_false, Bool.true_or, Bool.false_or, Bool.or_true, Bool.or_false, go_sem, Hold.p, HoldK.k, HoldL.K, HoldL.body, Nat.reduceBEq, Nat.reduceAdd, List.getElem?_cons_zero, List.getElem?_cons_succ, Option.bind_some, List.map_cons, List.map_nil, Nat.zero_add, if_true, List.getD_cons_zero, List.getD_cons_succ, List.contains_cons, List.contains_nil, Nat.reduceBEq, Bool.or_true, Bool.true_or, Bool.or_false, Bool.false_or, Bool.not_true, Bool.not_false, true_and, and_true]
                  · skip
                    simp only [d0, d1, d2, d3, d4, d5, d6, d7, d8, Bool.true_and, Bool.false_and, Bool.and_true, Bool.and_false, Bool.true_or, Bool.false_or, Bool.or_true, Bool.or_false, go_sem, Hold.p, HoldK.k, HoldL.K, HoldL.body, Nat.reduceBEq, Nat.reduceAdd, List.getElem?_cons_zero, List.getElem?_cons_succ, Option.bind_some, List.map_cons, List.map_nil, Nat.zero_add, if_true, List.getD_cons_zero, List.getD_cons_succ, List.contains_cons, List.contains_nil, Nat.reduceBEq, Bool.or_true, Bool.true_or, Bool.or_false, Bool.false_or, Bool.not_true, Bool.not_false, true_and, and_true]
                · skip
                  simp only [d0, d1, d2, d3, d4, d5, d6, d7, Bool.true_and, Bool.false_and, Bool.and_true, Bool.and_false, Bool.true_or, Bool.false_or, Bool.or_true, Bool.or_false, go_sem, Hold.p, HoldK.k, HoldL.K, HoldL.body, Nat.reduceBEq, Nat.reduceAdd, List.getElem?_cons_zero, List.getElem?_cons_succ, Option.bind_some, List.map_cons, List.map_nil, Nat.zero_add, if_true, List.getD_cons_zero, List.getD_cons_succ, List.contains_cons, List.contains_nil, Nat.reduceBEq, Bool.or_true, Bool.true_or, Bool.or_false, Bool.false_or, Bool.not_true, Bool.not_false, true_and, and_true]
              · skip
                simp only [d0, d1, d2, d3, d4, d5, d6, Bool.true_and, Bool.false_and, Bool.and_true, Bool.and_false, Bool.true_or, Bool.false_or, Bool.or_true, Bool.or_false, go_sem, Hold.p, HoldK.k, HoldL.K, HoldL.body, Nat.reduceBEq, Nat.reduceAdd, List.getElem?_cons_zero, List.getElem?_cons_succ, Option.bind_some, List.map_cons, List.map_nil, Nat.zero_add, if_true, List.getD_cons_zero, List.getD_cons_succ, List.contains_cons, List.contains_nil, Nat.reduceBEq, Bool.or_true, Bool.true_or, Bool.or_false, Bool.false_or, Bool.not_true, Bool.not_false, true_and, and_true]
            · skip
              simp only [d0, d1, d2, d3, d4, d5, Bool.true_and, Bool.false_and, Bool.and_true, Bool.and_false, Bool.true_or, Bool.false_or, Bool.or_true, Bool.or_false, go_sem, Hold.p, HoldK.k, HoldL.K, HoldL.body, Nat.reduceBEq, Nat.reduceAdd, List.getElem?_cons_zero, List.getElem?_cons_succ, Option.bind_some, List.map_cons, List.map_nil, Nat.zero_add, if_true, List.getD_cons_zero, List.getD_cons_succ, List.contains_cons, List.contains_nil, Nat.reduceBEq, Bool.or_true, Bool.true_or, Bool.or_false, Bool.false_or, Bool.not_true, Bool.not_false, true_and, and_true]
          · skip
            simp only [d0, d1, d2, d3, d4, Bool.true_and, Bool.false_and, Bool.and_true, Bool.and_false, Bool.true_or, Bool.false_or, Bool.or_true, Bool.or_false, go_sem, Hold.p, HoldK.k, HoldL.K, HoldL.body, Nat.reduceBEq, Nat.reduceAdd, List.getElem?_cons_zero, List.getElem?_cons_succ, Option.bind_some, List.map_cons, List.map_nil, Nat.zero_add, if_true, List.getD_cons_zero, List.getD_cons_succ, List.contains_cons, List.contains_nil, Nat.reduceBEq, Bool.or_true, Bool.true_or, Bool.or_false, Bool.false_or, Bool.not_true, Bool.not_false, true_and, and_true]
      · skip
        simp only [d0, d1, d2, Bool.true_and, Bool.false_and, Bool.and_true, Bool.and_false, Bool.true_or, Bool.false_or, Bool.or_true, Bool.or_false, go_sem, Hold.p, HoldK.k, HoldL.K, HoldL.body, Nat.reduceBEq, Nat.reduceAdd, List.getElem?_cons_zero, List.getElem?_cons_succ, Option.bind_some, List.map_cons, List.map_nil, Nat.zero_add, if_true, List.getD_cons_zero, List.getD_cons_succ, List.contains_cons, List.contains_nil, Nat.reduceBEq, Bool.or_true, Bool.true_or, Bool.or_false, Bool.false_or, Bool.not_true, Bool.not_false, true_and, and_true]
  · cases d1 : decide ((b.toNat : Int) ≤ 122)
    · skip
      cases d2 : decide (65 ≤ (b.toNat : Int))
      · skip
        cases d3 : decide (48 ≤ (b.toNat : Int))
        · skip
          cases d4 : decide ((b.toNat : Int) = 46)
          · skip
            cases d5 : decide ((b.toNat : Int) = 45)
            · skip
              cases d6 : decide ((b.toNat : Int) = 95)
              · skip
                cases d7 : decide ((b.toNat : Int) = 47)
                · skip
                  cases d8 : decide ((b.toNat : Int) = 58)
                  · skip
                    simp only [d0, d1, d2, d3, d4, d5, d6, d7, d8, Bool.true_and, Bool.false_and, Bool.and_true, Bool.and_false, Bool.true_or, Bool.false_or, Bool.or_true, Bool.or_false, go_sem, Hold.p, HoldK.k, HoldL.K, HoldL.body, Nat.reduceBEq, Nat.reduceAdd, List.getElem?_cons_zero, List.getElem?_cons_succ, Option.bind_some, List.map_cons, List.map_nil, Nat.zero_add, if_true, List.getD_cons_zero, List.getD_cons_succ, List.contains_cons, List.contains_nil, Nat.reduceBEq, Bool.or_true, Bool.true_or, Bool.or_false, Bool.false_or, Bool.not_true, Bool.not_false, true_and, and_true]
                  · skip
                    simp only [d0, d1, d2, d3, d4, d5, d6, d7, d8, Bool.true_and, Bool.false_and, Bool.and_true, Bool.and_false, Bool.true_or, Bool.false_or, Bool.or_true, Bool.or_false, go_sem, Hold.p, HoldK.k, HoldL.K, HoldL.body, Nat.reduceBEq, Nat.reduceAdd, List.getElem?_cons_zero, List.getElem?_cons_succ, Option.bind_some, List.map_cons, List.map_nil, Nat.zero_add, if_true, List.getD_cons_zero, List.getD_cons_succ, List.contains_cons, List.contains_nil, Nat.reduceBEq, Bool.or_true, Bool.true_or, Bool.or_false, Bool.false_or, Bool.not_true, Bool.not_false, true_and, and_true]
                · skip
                  simp only [d0, d1, d2, d3, d4, d5, d6, d7, Bool.true_and, Bool.false_and, Bool.and_true, Bool.and_false, Bool.true_or, Bool.false_or, Bool.or_true, Bool.or_false, go_sem, Hold.p, HoldK.k, HoldL.K, HoldL.body, Nat.reduceBEq, Nat.reduceAdd, List.getElem?_cons_zero, List.getElem?_cons_succ, Option.bind_some, List.map_cons, List.map_nil, Nat.zero_add, if_true, List.getD_cons_zero, List.getD_cons_succ, List.contains_cons, List.contains_nil, Nat.reduceBEq, Bool.or_true, Bool.true_or, Bool.or_false, Bool.false_or, Bool.not_true, Bool.not_false, true_and, and_true]
              · skip
                simp only [d0, d1, d2, d3, d4, d5, d6, Bool.true_and, Bool.false_and, Bool.and_true, Bool.and_false, Bool.true_or, Bool.false_or, Bool.or_true, Bool.or_false, go_sem, Hold.p, HoldK.k, HoldL.K, HoldL.body, Nat.reduceBEq, Nat.reduceAdd, List.getElem?_cons_zero, List.getElem?_cons_succ, Option.bind_some, List.map_cons, List.map_nil, Nat.zero_add, if_true, List.getD_cons_zero, List.getD_cons_succ, List.contains_cons, List.contains_nil, Nat.reduceBEq, Bool.or_true, Bool.true_or, Bool.or_false, Bool.false_or, Bool.not_true, Bool.not_false, true_and, and_true]
            · skip
              simp only [d0, d1, d2, d3, d4, d5, Bool.true_and, Bool.false_and, Bool.and_true, Bool.and_false, Bool.true_or, Bool.false_or, Bool.or_true, Bool.or_false, go_sem, Hold.p, HoldK.k, HoldL.K, HoldL.body, Nat.reduceBEq, Nat.reduceAdd, List.getElem?_cons_zero, List.getElem?_cons_succ, Option.bind_some, List.map_cons, List.map_nil, Nat.zero_add, if_true, List.getD_cons_zero, List.getD_cons_succ, List.contains_cons, List.contains_nil, Nat.reduceBEq, Bool.or_true, Bool.true_or, Bool.or_false, Bool.false_or, Bool.not_true, Bool.not_false, true_and, and_true]
          · skip
            simp only [d0, d1, d2, d3, d4, Bool.true_and, Bool.false_and, Bool.and_true, Bool.and_false, Bool.true_or, Bool.false_or, Bool.or_true, Bool.or_false, go_sem, Hold.p, HoldK.k, HoldL.K, HoldL.body, Nat.reduceBEq, Nat.reduceAdd, List.getElem?_cons_zero, List.getElem?_cons_succ, Option.bind_some, List.map_cons, List.map_nil, Nat.zero_add, if_true, List.getD_cons_zero, List.getD_cons_succ, List.contains_cons, List.contains_nil, Nat.reduceBEq, Bool.or_true, Bool.true_or, Bool.or_false, Bool.false_or, Bool.not_true, Bool.not_false, true_and, and_true]
        · cases d4 : decide ((b.toNat : Int) ≤ 57)
          · skip
            cases d5 : decide ((b.toNat : Int) = 46)
            · skip
              cases d6 : decide ((b.toNat : Int) = 45)
              · skip
                cases d7 : decide ((b.toNat : Int) = 95)
                · skip
                  cases d8 : decide ((b.toNat : Int) = 47)
                  · skip
                    cases d9 : decide ((b.toNat : Int) = 58)
                    · skip
                      simp only [d0, d1, d2, d3, d4, d5, d6, d7, d8, d9, Bool.true_and, Bool.false_and, Bool.and_true, Bool.and_false, Bool.true_or, Bool.false_or, Bool.or_true, Bool.or_false, go_sem, Hold.p, HoldK.k, HoldL.K, HoldL.body, Nat.reduceBEq, Nat.reduceAdd, List.getElem?_cons_zero, List.getElem?_cons_succ, Option.bind_some, List.map_cons, List.map_nil, Nat.zero_add, if_true, List.getD_cons_zero, List.getD_cons_succ, List.contains_cons, List.contains_nil, Nat.reduceBEq, Bool.or_true, Bool.true_or, Bool.or_false, Bool.false_or, Bool.not_true, Bool.not_false, true_and, and_true]
                    · skip
                      simp only [d0, d1, d2, d3, d4, d5, d6, d7, d8, d9, Bool.true_and, Bool.false_and, Bool.and_true, Bool.and_false, Bool.true_or, Bool.false_or, Bool.or_true, Bool.or_false, go_sem, Hold.p, HoldK.k, HoldL.K, HoldL.body, Nat.reduceBEq, Nat.reduceAdd, List.getElem?_cons_zero, List.getElem?_cons_succ, Option.bind_some, List.map_cons, List.map_nil, Nat.zero_add, if_true, List.getD_cons_zero, List.getD_cons_succ, List.contains_cons, List.contains_nil, Nat.reduceBEq, Bool.or_true, Bool.true_or, Bool.or_false, Bool.false_or, Bool.not_true, Bool.not_false, true_and, and_true]
                  · skip
                    simp only [d0, d1, d2, d3, d4, d5, d6, d7, d8, Bool.true_and, Bool.false_and, Bool.and_true, Bool.and_false, Bool.true_or, Bool.false_or, Bool.or_true, Bool.or_false, go_sem, Hold.p, HoldK.k, HoldL.K, HoldL.body, Nat.reduceBEq, Nat.reduceAdd, List.getElem?_cons_zero, List.getElem?_cons_succ, Option.bind_some, List.map_cons, List.map_nil, Nat.zero_add, if_true, List.getD_cons_zero, List.getD_cons_succ, List.contains_cons, List.contains_nil, Nat.reduceBEq, Bool.or_true, Bool.true_or, Bool.or_false, Bool.false_or, Bool.not_true, Bool.not_false, true_and, and_true]
                · skip
                  simp only [d0, d1, d2, d3, d4, d5, d6, d7, Bool.true_and, Bool.false_and, Bool.and_true, Bool.and_false, Bool.true_or, Bool.false_or, Bool.or_true, Bool.or_false, go_sem, Hold.p, HoldK.k, HoldL.K, HoldL.body, Nat.reduceBEq, Nat.reduceAdd, List.getElem?_cons_zero, List.getElem?_cons_succ, Option.bind_some, List.map_cons, List.map_nil, Nat.zero_add, if_true, List.getD_cons_zero, List.getD_cons_succ, List.contains_cons, List.contains_nil, Nat.reduceBEq, Bool.or_true, Bool.true_or, Bool.or_false, Bool.false_or, Bool.not_true, Bool.not_false, true_and, and_true]
              · skip
                simp only [d0, d1, d2, d3, d4, d5, d6, Bool.true_and, Bool.false_and, Bool.and_true, Bool.and_false, Bool.true_or, Bool.false_or, Bool.or_true, Bool.or_false, go_sem, Hold.p, HoldK.k, HoldL.K, HoldL.body, Nat.reduceBEq, Nat.reduceAdd, List.getElem?_cons_zero, List.getElem?_cons_succ, Option.bind_some, List.map_cons, List.map_nil, Nat.zero_add, if_true, List.getD_cons_zero, List.getD_cons_succ, List.contains_cons, List.contains_nil, Nat.reduceBEq, Bool.or_true, Bool.true_or, Bool.or_false, Bool.false_or, Bool.not_true, Bool.not_false, true_and, and_true]
            · skip
              simp only [d0, d1, d2, d3, d4, d5, Bool.true_and, Bool.false_and, Bool.and_true, Bool.and_false, Bool.true_or, Bool.false_or, Bool.or_true, Bool.or_false, go_sem, Hold.p, HoldK.k, HoldL.K, HoldL.body, Nat.reduceBEq, Nat.reduceAdd, List.getElem?_cons_zero, List.getElem?_cons_succ, Option.bind_some, List.map_cons, List.map_nil, Nat.zero_add, if_true, List.getD_cons_zero, List.getD_cons_succ, List.contains_cons, List.contains_nil, Nat.reduceBEq, Bool.or_true, Bool.true_or, Bool.or_false, Bool.false_or, Bool.not_true, Bool.not_false, true_and, and_true]
          · skip
            simp only [d0, d1, d2, d3, d4, Bool.true_and, Bool.false_and, Bool.and_true, Bool.and_false, Bool.true_or, Bool.false_or, Bool.or_true, Bool.or_false, go_sem, Hold.p, HoldK.k, HoldL.K, HoldL.body, Nat.reduceBEq, Nat.reduceAdd, List.getElem?_cons_zero, List.getElem?_cons_succ, Option.bind_some, List.map_cons, List.map_nil, Nat.zero_add, if_true, List.getD_cons_zero, List.getD_cons_succ, List.contains_cons, List.contains_nil, Nat.reduceBEq, Bool.or_true, Bool.true_or, Bool.or_false, Bool.false_or, Bool.not_true, Bool.not_false, true_and, and_true]
      · cases d3 : decide ((b.toNat : Int) ≤ 90)
        · skip
          cases d4 : decide (48 ≤ (b.toNat : Int))
          · skip
            cases d5 : decide ((b.toNat : Int) = 46)
            · skip
              cases d6 : decide ((b.toNat : Int) = 45)
              · skip
                cases d7 : decide ((b.toNat : Int) = 95)
                · skip
                  cases d8 : decide ((b.toNat : Int) = 47)
                  · skip
                    cases d9 : decide ((b.toNat : Int) = 58)
                    · skip
                      simp only [d0, d1, d2, d3, d4, d5, d6, d7, d8, d9, Bool.true_and, Bool.false_and, Bool.and_true, Bool.and_false, Bool.true_or, Bool.false_or, Bool.or_true, Bool.or_false, go_sem, Hold.p, HoldK.k, HoldL.K, HoldL.body, Nat.reduceBEq, Nat.reduceAdd, List.getElem?_cons_zero, List.getElem?_cons_succ, Option.bind_some, List.map_cons, List.map_nil, Nat.zero_add, if_true, List.getD_cons_zero, List.getD_cons_succ, List.contains_cons, List.contains_nil, Nat.reduceBEq, Bool.or_true, Bool.true_or, Bool.or_false, Bool.false_or, Bool.not_true, Bool.not_false, true_and, and_true]
                    · skip
                      simp only [d0, d1, d2, d3, d4, d5, d6, d7, d8, d9, Bool.true_and, Bool.false_and, Bool.and_true, Bool.and_false, Bool.true_or, Bool.false_or, Bool.or_true, Bool.or_false, go_sem, Hold.p, HoldK.k, HoldL.K, HoldL.body, Nat.reduceBEq, Nat.reduceAdd, List.getElem?_cons_zero, List.getElem?_cons_succ, Option.bind_some, List.map_cons, List.map_nil, Nat.zero_add, if_true, List.getD_cons_zero, List.getD_cons_succ, List.contains_cons, List.contains_nil, Nat.reduceBEq, Bool.or_true, Bool.true_or, Bool.or_false, Bool.false_or, Bool.not_true, Bool.not_false, true_and, and_true]
                  · skip
                    simp only [d0, d1, d2, d3, d4, d5, d6, d7, d8, Bool.true_and, Bool.false_and, Bool.and_true, Bool.and_false, Bool.true_or, Bool.false_or, Bool.or_true, Bool.or_false, go_sem, Hold.p, HoldK.k, HoldL.K, HoldL.body, Nat.reduceBEq, Nat.reduceAdd, List.getElem?_cons_zero, List.getElem?_cons_succ, Option.bind_some, List.map_cons, List.map_nil, Nat.zero_add, if_true, List.getD_cons_zero, List.getD_cons_succ, List.contains_cons, List.contains_nil, Nat.reduceBEq, Bool.or_true, Bool.true_or, Bool.or_false, Bool.false_or, Bool.not_true, Bool.not_false, true_and, and_true]
                · skip
                  simp only [d0, d1, d2, d3, d4, d5, d6, d7, Bool.true_and, Bool.false_and, Bool.and_true, Bool.and_false, Bool.true_or, Bool.false_or, Bool.or_true, Bool.or_false, go_sem, Hold.p, HoldK.k, HoldL.K, HoldL.body, Nat.reduceBEq, Nat.reduceAdd, List.getElem?_cons_zero, List.getElem?_cons_succ, Option.bind_some, List.map_cons, List.map_nil, Nat.zero_add, if_true, List.getD_cons_zero, List.getD_cons_succ, List.contains_cons, List.contains_nil, Nat.reduceBEq, Bool.or_true, Bool.true_or, Bool.or_false, Bool.false_or, Bool.not_true, Bool.not_false, true_and, and_true]
              · skip
                simp only [d0, d1, d2, d3, d4, d5, d6, Bool.true_and, Bool.false_and, Bool.and_true, Bool.and_false, Bool.true_or, Bool.false_or, Bool.or_true, Bool.or_false, go_sem, Hold.p, HoldK.k, HoldL.K, HoldL.body, Nat.reduceBEq, Nat.reduceAdd, List.getElem?_cons_zero, List.getElem?_cons_succ, Option.bind_some, List.map_cons, List.map_nil, Nat.zero_add, if_true, List.getD_cons_zero, List.getD_cons_succ, List.contains_cons, List.contains_nil, Nat.reduceBEq, Bool.or_true, Bool.true_or, Bool.or_false, Bool.false_or, Bool.not_true, Bool.not_false, true_and, and_true]
            · skip
              simp only [d0, d1, d2, d3, d4, d5, Bool.true_and, Bool.false_and, Bool.and_true, Bool.and_false, Bool.true_or, Bool.false_or, Bool.or_true, Bool.or_false, go_sem, Hold.p, HoldK.k, HoldL.K, HoldL.body, Nat.reduceBEq, Nat.reduceAdd, List.getElem?_cons_zero, List.getElem?_cons_succ, Option.bind_some, List.map_cons, List.map_nil, Nat.zero_add, if_true, List.getD_cons_zero, List.getD_cons_succ, List.contains_cons, List.contains_nil, Nat.reduceBEq, Bool.or_true, Bool.true_or, Bool.or_false, Bool.false_or, Bool.not_true, Bool.not_false, true_and, and_true]
          · cases d5 : decide ((b.toNat : Int) ≤ 57)
            · skip
              cases d6 : decide ((b.toNat : Int) = 46)
              · skip
                cases d7 : decide ((b.toNat : Int) = 45)
                · skip
                  cases d8 : decide ((b.toNat : Int) = 95)
                  · skip
                    cases d9 : decide ((b.toNat : Int) = 47)
                    · skip
                      cases d10 : decide ((b.toNat : Int) = 58)
                      · skip
                        simp only [d0, d1, d2, d3, d4, d5, d6, d7, d8, d9, d10, Bool.true_and, Bool.false_and, Bool.and_true, Bool.and_false, Bool.true_or, Bool.false_or, Bool.or_true, Bool.or_false, go_sem, Hold.p, HoldK.k, HoldL.K, HoldL.body, Nat.reduceBEq, Nat.reduceAdd, List.getElem?_cons_zero, List.getElem?_cons_succ, Option.bind_some, List.map_cons, List.map_nil, Nat.zero_add, if_true, List.getD_cons_zero, List.getD_cons_succ, List.contains_cons, List.contains_nil, Nat.reduceBEq, Bool.or_true, Bool.true_or, Bool.or_false, Bool.false_or, Bool.not_true, Bool.not_false, true_and, and_true]
                      · skip
                        simp only [d0, d1, d2, d3, d4, d5, d6, d7, d8, d9, d10, Bool.true_and, Bool.false_and, Bool.and_true, Bool.and_false, Bool.true_or, Bool.false_or, Bool.or_true, Bool.or_false, go_sem, Hold.p, HoldK.k, HoldL.K, HoldL.body, Nat.reduceBEq, Nat.reduceAdd, List.getElem?_cons_zero, List.getElem?_cons_succ, Option.bind_some, List.map_cons, List.map_nil, Nat.zero_add, if_true, List.getD_cons_zero, List.getD_cons_succ, List.contains_cons, List.contains_nil, Nat.reduceBEq, Bool.or_true, Bool.true_or, Bool.or_false, Bool.false_or, Bool.not_true, Bool.not_false, true_and, and_true]
                    · skip
                      simp only [d0, d1, d2, d3, d4, d5, d6, d7, d8, d9, Bool.true_and, Bool.false_and, Bool.and_true, Bool.and_false, Bool.true_or, Bool.false_or, Bool.or_true, Bool.or_false, go_sem, Hold.p, HoldK.k, HoldL.K, HoldL.body, Nat.reduceBEq, Nat.reduceAdd, List.getElem?_cons_zero, List.getElem?_cons_succ, Option.bind_some, List.map_cons, List.map_nil, Nat.zero_add, if_true, List.getD_cons_zero, List.getD_cons_succ, List.contains_cons, List.contains_nil, Nat.reduceBEq, Bool.or_true, Bool.true_or, Bool.or_false, Bool.false_or, Bool.not_true, Bool.not_false, true_and, and_true]
                  · skip
                    simp only [d0, d1, d2, d3, d4, d5, d6, d7, d8, Bool.true_and, Bool.false_and, Bool.and_true, Bool.and_false, Bool.true_or, Bool.false_or, Bool.or_true, Bool.or_false, go_sem, Hold.p, HoldK.k, HoldL.K, HoldL.body, Nat.reduceBEq, Nat.reduceAdd, List.getElem?_cons_zero, List.getElem?_cons_succ, Option.bind_some, List.map_cons, List.map_nil, Nat.zero_add, if_true, List.getD_cons_zero, List.getD_cons_succ, List.contains_cons, List.contains_nil, Nat.reduceBEq, Bool.or_true, Bool.true_or, Bool.or_false, Bool.false_or, Bool.not_true, Bool.not_false, true_and, and_true]
                · skip
                  simp only [d0, d1, d2, d3, d4, d5, d6, d7, Bool.true_and, Bool.false_and, Bool.and_true, Bool.and_false, Bool.true_or, Bool.false_or, Bool.or_true, Bool.or_false, go_sem, Hold.p, HoldK.k, HoldL.K, HoldL.body, Nat.reduceBEq, Nat.reduceAdd, List.getElem?_cons_zero, List.getElem?_cons_succ, Option.bind_some, List.map_cons, List.map_nil, Nat.zero_add, if_true, List.getD_cons_zero, List.getD_cons_succ, List.contains_cons, List.contains_nil, Nat.reduceBEq, Bool.or_true, Bool.true_or, Bool.or_false, Bool.false_or, Bool.not_true, Bool.not_false, true_and, and_true]
              · skip
                simp only [d0, d1, d2, d3, d4, d5, d6, Bool.true_and, Bool.false_and, Bool.and_true, Bool.and_false, Bool.true_or, Bool.false_or, Bool.or_true, Bool.or_false, go_sem, Hold.p, HoldK.k, HoldL.K, HoldL.body, Nat.reduceBEq, Nat.reduceAdd, List.getElem?_cons_zero, List.getElem?_cons_succ, Option.bind_some, List.map_cons, List.map_nil, Nat.zero_add, if_true, List.getD_cons_zero, List.getD_cons_succ, List.contains_cons, List.contains_nil, Nat.reduceBEq, Bool.or_true, Bool.true_or, Bool.or_false, Bool.false_or, Bool.not_true, Bool.not_false, true_and, and_true]
            · skip
              simp only [d0, d1, d2, d3, d4, d5, Bool.true_and, Bool.false_and, Bool.and_true, Bool.and_false, Bool.true_or, Bool.false_or, Bool.or_true, Bool.or_false, go_sem, Hold.p, HoldK.k, HoldL.K, HoldL.body, Nat.reduceBEq, Nat.reduceAdd, List.getElem?_cons_zero, List.getElem?_cons_succ, Option.bind_some, List.map_cons, List.map_nil, Nat.zero_add, if_true, List.getD_cons_zero, List.getD_cons_succ, List.contains_cons, List.contains_nil, Nat.reduceBEq, Bool.or_true, Bool.true_or, Bool.or_false, Bool.false_or, Bool.not_true, Bool.not_false, true_and, and_true]
        · skip
          simp only [d0, d1, d2, d3, Bool.true_and, Bool.false_and, Bool.and_true, Bool.and_false, Bool.true_or, Bool.false_or, Bool.or_true, Bool.or_false, go_sem, Hold.p, HoldK.k, HoldL.K, HoldL.body, Nat.reduceBEq, Nat.reduceAdd, List.getElem?_cons_zero, List.getElem?_cons_succ, Option.bind_some, List.map_cons, List.map_nil, Nat.zero_add, if_true, List.getD_cons_zero, List.getD_cons_succ, List.contains_cons, List.contains_nil, Nat.reduceBEq, Bool.or_true, Bool.true_or, Bool.or_false, Bool.false_or, Bool.not_true, Bool.not_false, true_and, and_true]
    · skip
      simp only [d0, d1, Bool.true_and, Bool.false_and, Bool.and_true, Bool.and_false, Bool.true_or, Bool.false_or, Bool.or_true, Bool.or_false, go_sem, Hold.p, HoldK.k, HoldL.K, HoldL.body, Nat.reduceBEq, Nat.reduceAdd, List.getElem?_cons_zero, List.getElem?_cons_succ, Option.bind_some, List.map_cons, List.map_nil, Nat.zero_add, if_true, List.getD_cons_zero, List.getD_cons_succ, List.contains_cons, List.contains_nil, Nat.reduceBEq, Bool.or_true, Bool.true_or, Bool.or_false, Bool.false_or, Bool.not_true, Bool.not_false, true_and, and_true]

end Go.Proofs.YtaolhgjnlmaooaaDoor

namespace Go.Proofs.YtaolhgjnlmaooaaDoor
open Go Go.IW

/-! Numerals. -/
theorem itoa_nn (n : Nat) : Lib.itoa (n : Int) = Lib.decDigits n := by
  unfold Lib.itoa; rw [if_neg (by omega)]; simp
theorem dec_le (n : Nat) (h : n < 18446744073709551616) : (Lib.decDigits n).length ≤ 20 := by rw [Lib.decDigits_length]; exact Lib.nDigits_le20 n h

/-! A value without blanks at its ends. -/
theorem dw_len (p : UInt8 → Bool) (l : List UInt8) : (l.dropWhile p).length ≤ l.length := by
  induction l with
  | nil => simp
  | cons a l ih => rw [List.dropWhile_cons]; split <;> simp; omega
theorem dw_same (p : UInt8 → Bool) (l : List UInt8) : l.dropWhile p = l ↔ ∀ a, l[0]? = some a → p a = false := by
  cases l with
  | nil => simp
  | cons a l =>
    rw [List.dropWhile_cons]
    constructor
    · intro h b hb
      simp at hb; subst hb
      cases hp : p a
      · rfl
      · rw [hp, if_pos rfl] at h
        have := congrArg List.length h
        have := dw_len p l
        simp at *; omega
    · intro h
      rw [h a rfl]; simp
/-- No blank at either end. -/
def noEnds (v : List UInt8) : Bool := (v[0]? != some 32) && (v[v.length - 1]? != some 32)
theorem trim_same (v : List UInt8) : decide (v = Lib.trimB v 32) = noEnds v := by
  have key : v = Lib.trimB v 32 ↔ (v[0]? ≠ some 32 ∧ v[v.length - 1]? ≠ some 32) := by
    unfold Lib.trimB Lib.trimLeftB Lib.trimRightB
    have hr0 : ∀ a, v.reverse[0]? = some a ↔ v[v.length - 1]? = some a := by
      intro a
      by_cases hv : v = []
      · subst hv; simp
      · have hl : 0 < v.length := List.length_pos_iff.2 hv
        rw [List.getElem?_reverse hl, Nat.sub_zero]
    constructor
    · intro h
      have l1 := dw_len (· == 32) ((v.reverse.dropWhile (· == 32)).reverse)
      have l2 := dw_len (· == 32) v.reverse
      have l3 := congrArg List.length h
      simp only [List.length_reverse] at l1 l2
      have e2 : v.reverse.dropWhile (· == 32) = v.reverse := by
        have hs : v.reverse.dropWhile (· == 32) <:+ v.reverse := List.dropWhile_suffix _
        exact hs.eq_of_length (by simp; omega)
      have e1 : v.dropWhile (· == 32) = v := by
        rw [e2, List.reverse_reverse] at h; exact h.symm
      refine ⟨fun h0 => ?_, fun h0 => ?_⟩
      · have := (dw_same _ _).1 e1 32 h0; simp at this
      · have := (dw_same _ _).1 e2 32 ((hr0 32).2 h0); simp at this
    · intro ⟨h1, h2⟩
      have e2 : v.reverse.dropWhile (· == 32) = v.reverse := (dw_same _ _).2 fun a ha => by
        have := (hr0 a).1 ha
        have hne : a ≠ 32 := fun e => h2 (e ▸ this)
        simpa using hne
      rw [e2, List.reverse_reverse]
      exact ((dw_same _ _).2 fun a ha => by
        have hne : a ≠ 32 := fun e => h1 (e ▸ ha)
        simpa using hne).symm
  unfold noEnds
  by_cases h : v = Lib.trimB v 32
  · obtain ⟨h1, h2⟩ := key.1 h
    rw [decide_eq_true h]
    simp [h1, h2]
  · rw [decide_eq_false h]
    cases hb : noEnds v
    · unfold noEnds at hb; exact hb.symm
    · unfold noEnds at hb
      simp at hb
      exact absurd (key.2 ⟨by simpa using hb.1, by simpa using hb.2⟩) h

/-! Messages. -/
/-- A byte of a path. -/
def pathB (b : UInt8) : Bool := plainB b && !decide ((b.toNat : Int) = 58)
def pathOK (p : List UInt8) : Bool := decide (1 ≤ p.length) && decide (p.length ≤ 200) && (p[0]? == some 47) && p.all pathB
def nameB (b : UInt8) : Bool := (decide (97 ≤ (b.toNat : Int)) && decide ((b.toNat : Int) ≤ 122)) || decide ((b.toNat : Int) = 45)
def valB (b : UInt8) : Bool := decide (32 ≤ (b.toNat : Int)) && decide ((b.toNat : Int) ≤ 126)
def lengthS : List UInt8 := [108, 101, 110, 103, 116, 104]
def fieldOK (n v : List UInt8) : Bool := decide (1 ≤ n.length) && decide (n.length ≤ 40) && !decide (n = lengthS) && decide (v.length ≤ 200) && n.all nameB && v.all valB && noEnds v
abbrev Fld := List UInt8 × List UInt8
def fldRows (fs : List Fld) : List (List IV) := fs.map fun f => [.str f.1, .str f.2]
/-- A field's line. -/
def fldLine (f : Fld) : List UInt8 := f.1 ++ [58, 32] ++ f.2 ++ [10]
def lenLine (body : List UInt8) : List UInt8 := if 0 < body.length then lengthS ++ [58, 32] ++ Lib.decDigits body.length ++ [10] else []
def message (first : List UInt8) (fs : List Fld) (body : List UInt8) : List UInt8 := first ++ [10] ++ fs.flatMap fldLine ++ lenLine body ++ [10] ++ body

end Go.Proofs.YtaolhgjnlmaooaaDoor

namespace Go.Proofs.YtaolhgjnlmaooaaDoor
open Go Go.IW
section
attribute [local go_sem] List.getElem?_cons_zero List.getElem?_cons_succ Option.bind_some List.map_cons List.map_nil Nat.zero_add if_true List.getD_cons_zero List.getD_cons_succ List.contains_cons List.contains_nil Bool.or_true Bool.true_or Bool.or_false Bool.false_or Bool.not_true Bool.not_false true_and and_true rowA_whole mid_get stO_mid rowO_rows cellO_rows push_n set_n push_at push_old set_here set_there set_pushT set_pushN set_set upd_ne Nat.add_assoc Nat.add_zero stO_1s stO_ws boxA_s List.all_cons List.all_nil one_bool one_int one_str one_ptr one_nilptr one_slice one_eslice one_nilslice one_func one_iface one_niliface Bool.and_true Bool.and_self List.length_cons List.length_nil Nat.one_ne_zero Nat.succ_ne_zero if_false List.set_cons_zero List.set_cons_succ lay_nil lay_1 lay_w Option.map_some

theorem dec_big {n : Nat} (h : ¬ n < 10) : Lib.decDigits n = Lib.decDigits (n / 10) ++ [UInt8.ofNat (48 + n % 10)] := by
  rw [Lib.decDigits, dif_neg h]
theorem dec_small {n : Nat} (h : n < 10) : Lib.decDigits n = [UInt8.ofNat (48 + n)] := by
  rw [Lib.decDigits, dif_pos h]
theorem digit_wr {n : Nat} (h : n < 10) : wr .u8 (wr .i64 (48 + (n : Int))) = ((UInt8.ofNat (48 + n)).toNat : Int) := by
  rw [wr64 _ (by omega)]
  unfold wr
  rw [IntKind.wrap_u8, UInt8.toNat_ofNat']
  omega
theorem b2s_one (b : UInt8) : bytesOf (List.take 1 (List.drop 0 [[IV.int .u8 (b.toNat : Int)]])) = some [b] := by
  simp [bytesOf]
theorem quo_nat (a b : Nat) (hb : b ≠ 0) (ha : a ≤ 9223372036854775807) (hb2 : b ≤ 9223372036854775807) : ibin .quo (.int .i64 (a : Int)) (.int .i64 (b : Int)) = some (.int .i64 ((a / b : Nat) : Int)) := by
  have h0 : (b : Int) ≠ 0 := by omega
  have hle : a / b ≤ a := Nat.div_le_self a b
  have e : Int.tdiv (a : Int) (b : Int) = ((a / b : Nat) : Int) := by rw [Int.tdiv_eq_ediv_of_nonneg (by omega)]; rfl
  have h2 : (0 : Int) ≤ ((a / b : Nat) : Int) := Int.natCast_nonneg _
  have h3 : ((a / b : Nat) : Int) ≤ (a : Int) := by exact_mod_cast hle
  unfold ibin
  simp only [if_true, if_neg h0]
  rw [e, wr64 _ ⟨by omega, by omega⟩]
theorem rem_nat (a b : Nat) (hb : b ≠ 0) : ibin .rem (.int .i64 (a : Int)) (.int .i64 (b : Int)) = some (.int .i64 ((a % b : Nat) : Int)) := by
  have h0 : (b : Int) ≠ 0 := by omega
  have e : Int.tmod (a : Int) (b : Int) = ((a % b : Nat) : Int) := by rw [Int.tmod_eq_emod_of_nonneg (by omega)]; rfl
  simp only [ibin, if_true, if_neg h0, e]

set_option maxRecDepth 20000 in
theorem l02Dec_c : ∀ (n : Nat) (h : IH), n ≤ 9223372036854775807 → ICalls Tryd.prog 29 [.int .i64 n] h fun r h' => r = .str (Lib.decDigits n) ∧ Ext h h' := by
  intro n
  induction n using Nat.strongRecOn with
  | ind n ih =>
    intro h hn
    refine icalls (.of ok29) (Nat.le_of_ble_eq_true rfl) ?_
    unfold c29
    by_cases h1 : n < 10
    · have d1 : decide ((n : Int) < 10) = true := decide_eq_true (by omega)
      have hw := digit_wr h1
      simp (disch := (first | omega | assumption | (simp only [push_n, set_n, put_n, List.length_cons, List.length_nil, List.length_append, Nat.reduceAdd]; done) | (simp only [push_n, set_n, put_n, List.length_cons, List.length_nil, List.length_append]; omega) | (simp only [List.all_cons, List.all_nil, one_bool, one_int, one_str, one_ptr, one_nilptr, one_slice, one_eslice, one_nilslice, one_func, one_iface, one_niliface, Bool.and_true, Bool.true_and, List.getD_cons_zero, List.getD_cons_succ, List.contains_cons, List.contains_nil, Bool.or_true, Bool.true_or, Bool.or_false, Bool.false_or, Nat.reduceBEq, *]; done) | fail)) only [d1, hw, b2s_one, Nat.le_refl, go_sem, Hold.p, HoldK.k, HoldL.K, HoldL.body, Nat.reduceBEq, Nat.reduceAdd, reduceIte]
      rw [dec_small h1]
      exact ⟨rfl, (Ext.refl _).push _⟩
    · have d1 : decide ((n : Int) < 10) = false := decide_eq_false (by omega)
      have hq : ibin .quo (.int .i64 (n : Int)) (.int .i64 10) = some (.int .i64 ((n / 10 : Nat) : Int)) := quo_nat n 10 (by omega) hn (by omega)
      have hr : ibin .rem (.int .i64 (n : Int)) (.int .i64 10) = some (.int .i64 ((n % 10 : Nat) : Int)) := rem_nat n 10 (by omega)
      have hm : n % 10 < 10 := Nat.mod_lt _ (by omega)
      have hw := digit_wr hm
      have hlen := dec_le (n / 10) (by omega)
      have hc := ibs_cat (s := Lib.decDigits (n / 10)) (t := [UInt8.ofNat (48 + n % 10)]) (by simp; omega)
      have hd : n / 10 < n := by omega
      simp (disch := (first | omega | assumption | (simp only [push_n, set_n, put_n, List.length_cons, List.length_nil, List.length_append, Nat.reduceAdd]; done) | (simp only [push_n, set_n, put_n, List.length_cons, List.length_nil, List.length_append]; omega) | (simp only [List.all_cons, List.all_nil, one_bool, one_int, one_str, one_ptr, one_nilptr, one_slice, one_eslice, one_nilslice, one_func, one_iface, one_niliface, Bool.and_true, Bool.true_and, List.getD_cons_zero, List.getD_cons_succ, List.contains_cons, List.contains_nil, Bool.or_true, Bool.true_or, Bool.or_false, Bool.false_or, Nat.reduceBEq, *]; done) | fail)) only [d1, hq, hr, hw, b2s_one, Nat.le_refl, go_sem, Hold.p, HoldK.k, HoldL.K, HoldL.body, Nat.reduceBEq, Nat.reduceAdd, reduceIte]
      refine either_of ?_ ?_
      · simp (disch := (first | omega | assumption | (simp only [push_n, set_n, put_n, List.length_cons, List.length_nil, List.length_append, Nat.reduceAdd]; done) | (simp only [push_n, set_n, put_n, List.length_cons, List.length_nil, List.length_append]; omega) | (simp only [List.all_cons, List.all_nil, one_bool, one_int, one_str, one_ptr, one_nilptr, one_slice, one_eslice, one_nilslice, one_func, one_iface, one_niliface, Bool.and_true, Bool.true_and, List.getD_cons_zero, List.getD_cons_succ, List.contains_cons, List.contains_nil, Bool.or_true, Bool.true_or, Bool.or_false, Bool.false_or, Nat.reduceBEq, *]; done) | fail)) only [go_sem, Hold.p, HoldK.k, HoldL.K, HoldL.body, Nat.reduceBEq, Nat.reduceAdd, reduceIte]
        refine callA_of (ih (n / 10) hd h (by omega)) ?_
        rintro r h2 ⟨rfl, E⟩
        simp (disch := (first | omega | assumption | (simp only [push_n, set_n, put_n, List.length_cons, List.length_nil, List.length_append, Nat.reduceAdd]; done) | (simp only [push_n, set_n, put_n, List.length_cons, List.length_nil, List.length_append]; omega) | (simp only [List.all_cons, List.all_nil, one_bool, one_int, one_str, one_ptr, one_nilptr, one_slice, one_eslice, one_nilslice, one_func, one_iface, one_niliface, Bool.and_true, Bool.true_and, List.getD_cons_zero, List.getD_cons_succ, List.contains_cons, List.contains_nil, Bool.or_true, Bool.true_or, Bool.or_false, Bool.false_or, Nat.reduceBEq, *]; done) | fail)) only [hq, hr, hw, b2s_one, Nat.le_refl, hc, go_sem, Hold.p, HoldK.k, HoldL.K, HoldL.body, Nat.reduceBEq, Nat.reduceAdd, reduceIte]
        rw [dec_big h1]
        exact ⟨rfl, E.push _⟩
      · simp (disch := (first | omega | assumption | (simp only [push_n, set_n, put_n, List.length_cons, List.length_nil, List.length_append, Nat.reduceAdd]; done) | (simp only [push_n, set_n, put_n, List.length_cons, List.length_nil, List.length_append]; omega) | (simp only [List.all_cons, List.all_nil, one_bool, one_int, one_str, one_ptr, one_nilptr, one_slice, one_eslice, one_nilslice, one_func, one_iface, one_niliface, Bool.and_true, Bool.true_and, List.getD_cons_zero, List.getD_cons_succ, List.contains_cons, List.contains_nil, Bool.or_true, Bool.true_or, Bool.or_false, Bool.false_or, Nat.reduceBEq, *]; done) | fail)) only [hq, hr, hw, b2s_one, Nat.le_refl, go_sem, Hold.p, HoldK.k, HoldL.K, HoldL.body, Nat.reduceBEq, Nat.reduceAdd, reduceIte]
        refine callA_of (ih (n / 10) hd _ (by omega)) ?_
        rintro r h2 ⟨rfl, E⟩
        simp (disch := (first | omega | assumption | (simp only [push_n, set_n, put_n, List.length_cons, List.length_nil, List.length_append, Nat.reduceAdd]; done) | (simp only [push_n, set_n, put_n, List.length_cons, List.length_nil, List.length_append]; omega) | (simp only [List.all_cons, List.all_nil, one_bool, one_int, one_str, one_ptr, one_nilptr, one_slice, one_eslice, one_nilslice, one_func, one_iface, one_niliface, Bool.and_true, Bool.true_and, List.getD_cons_zero, List.getD_cons_succ, List.contains_cons, List.contains_nil, Bool.or_true, Bool.true_or, Bool.or_false, Bool.false_or, Nat.reduceBEq, *]; done) | fail)) only [hq, hr, hw, b2s_one, Nat.le_refl, hc, go_sem, Hold.p, HoldK.k, HoldL.K, HoldL.body, Nat.reduceBEq, Nat.reduceAdd, reduceIte]
        have hb : h2.obj h.n = .rows [[IV.int .u8 ((UInt8.ofNat (48 + n % 10)).toNat : Int)]] 5 1 false := by
          rw [E.obj h.n (by rw [push_n]; omega)]
          exact push_new _ _
        refine ⟨?_, ?_⟩
        · rw [hb, b2sO_rows, if_pos (by simp), b2s_one]; rfl
        · rw [dec_big h1]
          exact ⟨rfl, ((Ext.refl _).push _).trans E⟩
end
end Go.Proofs.YtaolhgjnlmaooaaDoor

set_option maxRecDepth 20000
namespace Go.Proofs.YtaolhgjnlmaooaaDoor
open Go Go.IW
section
attribute [local go_sem] List.getElem?_cons_zero List.getElem?_cons_succ Option.bind_some List.map_cons List.map_nil Nat.zero_add if_true List.getD_cons_zero List.getD_cons_succ List.contains_cons List.contains_nil Bool.or_true Bool.true_or Bool.or_false Bool.false_or Bool.not_true Bool.not_false true_and and_true rowA_whole mid_get stO_mid rowO_rows cellO_rows push_n set_n push_at push_old set_here set_there set_pushT set_pushN set_set upd_ne Nat.add_assoc Nat.add_zero stO_1s stO_ws boxA_s List.all_cons List.all_nil one_bool one_int one_str one_ptr one_nilptr one_slice one_eslice one_nilslice one_func one_iface one_niliface Bool.and_true Bool.and_self List.length_cons List.length_nil Nat.one_ne_zero Nat.succ_ne_zero if_false List.set_cons_zero List.set_cons_succ lay_nil lay_1 lay_w Option.map_some

/-- A segment. -/
structure Seg where
  sp : Int
  dp : Int
  seq : Int
  ack : Int
  fl : Int
  win : Int
  mss : Int
  hs : Bool
  sc : Int
  so : Bool
  sacks : List (Int × Int)
  data : List UInt8
def Seg.cells (s : Seg) (vs vd : IV) : List IV := [.int .i64 s.sp, .int .i64 s.dp, .int .i64 s.seq, .int .i64 s.ack, .int .i64 s.fl, .int .i64 s.win, .int .i64 s.mss, .bool s.hs, .int .i64 s.sc, .bool s.so, vs, vd]
theorem lt_not (a b : Int) : decide (a < b) = !decide (b ≤ a) := by
  by_cases h : a < b
  · rw [decide_eq_true h, decide_eq_false (by omega)]; rfl
  · rw [decide_eq_false h, decide_eq_true (by omega)]; rfl

end
end Go.Proofs.YtaolhgjnlmaooaaDoor

set_option maxRecDepth 20000
namespace Go.Proofs.YtaolhgjnlmaooaaDoor
open Go Go.IW
section
attribute [local go_sem] List.getElem?_cons_zero List.getElem?_cons_succ Option.bind_some List.map_cons List.map_nil Nat.zero_add if_true List.getD_cons_zero List.getD_cons_succ List.contains_cons List.contains_nil Bool.or_true Bool.true_or Bool.or_false Bool.false_or Bool.not_true Bool.not_false true_and and_true rowA_whole mid_get stO_mid rowO_rows cellO_rows push_n set_n push_at push_old set_here set_there set_pushT set_pushN set_set upd_ne Nat.add_assoc Nat.add_zero stO_1s stO_ws boxA_s List.all_cons List.all_nil one_bool one_int one_str one_ptr one_nilptr one_slice one_eslice one_nilslice one_func one_iface one_niliface Bool.and_true Bool.and_self List.length_cons List.length_nil Nat.one_ne_zero Nat.succ_ne_zero if_false List.set_cons_zero List.set_cons_succ lay_nil lay_1 lay_w Option.map_some

/-! A segment's text. -/
def numI (n : Int) : List UInt8 := Lib.decDigits n.toNat
/-- The letter of flag i (SFRPAU). -/
def flLet : List (Nat × UInt8) := [(1, 83), (0, 70), (2, 82), (3, 80), (4, 65), (5, 85)]
def flHas (n : Int) (k : Nat) : Bool := decide (n.toNat / 2 ^ k % 2 = 1)
def flT (n : Int) (l : List (Nat × UInt8)) : List UInt8 := l.flatMap fun x => if flHas n x.1 = true then [x.2] else []
def flW (n : Int) : List UInt8 := if n = 0 then [45] else flT n flLet
def sackT (x : Int × Int) : List UInt8 := numI x.1 ++ [45] ++ numI x.2
def mssW : List UInt8 := [109, 115, 115]
def scaleW : List UInt8 := [115, 99, 97, 108, 101]
def sackokW : List UInt8 := [115, 97, 99, 107, 111, 107]
def sackW : List UInt8 := [115, 97, 99, 107]
def w0 (s : Seg) : List (List UInt8) := [numI s.sp ++ [62] ++ numI s.dp, flW s.fl, numI s.seq, numI s.ack, numI s.win]
def w1 (s : Seg) : List (List UInt8) := if s.mss = 0 then [] else [mssW, numI s.mss]
def w2 (s : Seg) : List (List UInt8) := if s.hs = true then [scaleW, numI s.sc] else []
def w3 (s : Seg) : List (List UInt8) := if s.so = true then [sackokW] else []
def w4 (l : List (Int × Int)) : List (List UInt8) := l.flatMap fun x => [sackW, sackT x]
theorem numI_c (h : IH) {n : Int} (h0 : 0 ≤ n) (h1 : n ≤ 4294967295) : ICalls Tryd.prog 29 [.int .i64 n] h fun r h' => r = .str (numI n) ∧ Ext h h' := by
  obtain ⟨m, rfl⟩ := Int.eq_ofNat_of_zero_le h0
  exact l02Dec_c m h (by omega)
theorem num_c2 (h : IH) {n : Int} (h0 : 0 ≤ n) (h1 : n ≤ 4294967295) : ICalls Tryd.prog 56 [.int .i64 n, .int .i64 10] h fun r h' => r = .str (numI n) ∧ h' = h := by
  refine (formatInt_calls (P := Tryd.prog) (f := 56) (Go.Proofs.enters_of Tryd.func56 (by kernel_rfl) rfl) (fun n h0 h1 w ht => Tryd.strconv_FormatInt_10 n h0 h1 w ht) (by kernel_rfl) (by simp [tabs]) h (by omega) (by omega)).mono fun r h' ⟨e1, e2⟩ => ⟨?_, e2⟩
  rw [e1]
  obtain ⟨m, rfl⟩ := Int.eq_ofNat_of_zero_le h0
  rw [itoa_nn]; rfl
theorem implNum_c (h : IH) {n : Int} (h0 : 0 ≤ n) (h1 : n ≤ 4294967295) : ICalls Tryd.prog 36 [.int .i64 n] h fun r h' => r = .str (numI n) ∧ h' = h := by
  refine icalls (.of ok36) (Nat.le_of_ble_eq_true rfl) ?_
  unfold c36
  simp (disch := (first | omega | assumption | (simp only [push_n, set_n, put_n, List.length_cons, List.length_nil, List.length_append, Nat.reduceAdd]; done) | (simp only [push_n, set_n, put_n, List.length_cons, List.length_nil, List.length_append]; omega) | (simp only [List.all_cons, List.all_nil, one_bool, one_int, one_str, one_ptr, one_nilptr, one_slice, one_eslice, one_nilslice, one_func, one_iface, one_niliface, Bool.and_true, Bool.true_and, List.getD_cons_zero, List.getD_cons_succ, List.contains_cons, List.contains_nil, Bool.or_true, Bool.true_or, Bool.or_false, Bool.false_or, Nat.reduceBEq, *]; done) | fail)) only [go_sem, Hold.p, HoldK.k, HoldL.K, HoldL.body, Nat.reduceBEq, Nat.reduceAdd, reduceIte]
  refine callA_of (num_c2 h h0 h1) ?_
  rintro r h' ⟨rfl, rfl⟩
  simp (disch := (first | omega | assumption | (simp only [push_n, set_n, put_n, List.length_cons, List.length_nil, List.length_append, Nat.reduceAdd]; done) | (simp only [push_n, set_n, put_n, List.length_cons, List.length_nil, List.length_append]; omega) | (simp only [List.all_cons, List.all_nil, one_bool, one_int, one_str, one_ptr, one_nilptr, one_slice, one_eslice, one_nilslice, one_func, one_iface, one_niliface, Bool.and_true, Bool.true_and, List.getD_cons_zero, List.getD_cons_succ, List.contains_cons, List.contains_nil, Bool.or_true, Bool.true_or, Bool.or_false, Bool.false_or, Nat.reduceBEq, *]; done) | fail)) only [go_sem, Hold.p, HoldK.k, HoldL.K, HoldL.body, Nat.reduceBEq, Nat.reduceAdd, reduceIte]
end
end Go.Proofs.YtaolhgjnlmaooaaDoor

set_option maxRecDepth 20000
namespace Go.Proofs.YtaolhgjnlmaooaaDoor
open Go Go.IW
section
attribute [local go_sem] List.getElem?_cons_zero List.getElem?_cons_succ Option.bind_some List.map_cons List.map_nil Nat.zero_add if_true List.getD_cons_zero List.getD_cons_succ List.contains_cons List.contains_nil Bool.or_true Bool.true_or Bool.or_false Bool.false_or Bool.not_true Bool.not_false true_and and_true rowA_whole mid_get stO_mid rowO_rows cellO_rows push_n set_n push_at push_old set_here set_there set_pushT set_pushN set_set upd_ne Nat.add_assoc Nat.add_zero stO_1s stO_ws boxA_s List.all_cons List.all_nil one_bool one_int one_str one_ptr one_nilptr one_slice one_eslice one_nilslice one_func one_iface one_niliface Bool.and_true Bool.and_self List.length_cons List.length_nil Nat.one_ne_zero Nat.succ_ne_zero if_false List.set_cons_zero List.set_cons_succ lay_nil lay_1 lay_w Option.map_some

end
end Go.Proofs.YtaolhgjnlmaooaaDoor

set_option maxRecDepth 20000
namespace Go.Proofs.YtaolhgjnlmaooaaDoor
open Go Go.IW
section
attribute [local go_sem] List.getElem?_cons_zero List.getElem?_cons_succ Option.bind_some List.map_cons List.map_nil Nat.zero_add if_true List.getD_cons_zero List.getD_cons_succ List.contains_cons List.contains_nil Bool.or_true Bool.true_or Bool.or_false Bool.false_or Bool.not_true Bool.not_false true_and and_true rowA_whole mid_get stO_mid rowO_rows cellO_rows push_n set_n push_at push_old set_here set_there set_pushT set_pushN set_set upd_ne Nat.add_assoc Nat.add_zero stO_1s stO_ws boxA_s List.all_cons List.all_nil one_bool one_int one_str one_ptr one_nilptr one_slice one_eslice one_nilslice one_func one_iface one_niliface Bool.and_true Bool.and_self List.length_cons List.length_nil Nat.one_ne_zero Nat.succ_ne_zero if_false List.set_cons_zero List.set_cons_succ lay_nil lay_1 lay_w Option.map_some

theorem cat3 {a b : List UInt8} (h : a.length + b.length ≤ 1000000) : ibin .add (.str a) (.str b) = some (.str (a ++ b)) := ibs_cat (by omega)

def T1 (s : Seg) : List UInt8 := numI s.sp ++ [62] ++ numI s.dp
def T2 (s : Seg) : List UInt8 := Lib.join (w0 s) [32]
end
end Go.Proofs.YtaolhgjnlmaooaaDoor

set_option maxRecDepth 20000
namespace Go.Proofs.YtaolhgjnlmaooaaDoor
open Go Go.IW
section
attribute [local go_sem] List.getElem?_cons_zero List.getElem?_cons_succ Option.bind_some List.map_cons List.map_nil Nat.zero_add if_true List.getD_cons_zero List.getD_cons_succ List.contains_cons List.contains_nil Bool.or_true Bool.true_or Bool.or_false Bool.false_or Bool.not_true Bool.not_false true_and and_true rowA_whole mid_get stO_mid rowO_rows cellO_rows push_n set_n push_at push_old set_here set_there set_pushT set_pushN set_set upd_ne Nat.add_assoc Nat.add_zero stO_1s stO_ws boxA_s List.all_cons List.all_nil one_bool one_int one_str one_ptr one_nilptr one_slice one_eslice one_nilslice one_func one_iface one_niliface Bool.and_true Bool.and_self List.length_cons List.length_nil Nat.one_ne_zero Nat.succ_ne_zero if_false List.set_cons_zero List.set_cons_succ lay_nil lay_1 lay_w Option.map_some

end
end Go.Proofs.YtaolhgjnlmaooaaDoor

set_option maxRecDepth 20000
namespace Go.Proofs.YtaolhgjnlmaooaaDoor
open Go Go.IW
section
attribute [local go_sem] List.getElem?_cons_zero List.getElem?_cons_succ Option.bind_some List.map_cons List.map_nil Nat.zero_add if_true List.getD_cons_zero List.getD_cons_succ List.contains_cons List.contains_nil Bool.or_true Bool.true_or Bool.or_false Bool.false_or Bool.not_true Bool.not_false true_and and_true rowA_whole mid_get stO_mid rowO_rows cellO_rows push_n set_n push_at push_old set_here set_there set_pushT set_pushN set_set upd_ne Nat.add_assoc Nat.add_zero stO_1s stO_ws boxA_s List.all_cons List.all_nil one_bool one_int one_str one_ptr one_nilptr one_slice one_eslice one_nilslice one_func one_iface one_niliface Bool.and_true Bool.and_self List.length_cons List.length_nil Nat.one_ne_zero Nat.succ_ne_zero if_false List.set_cons_zero List.set_cons_succ lay_nil lay_1 lay_w Option.map_some

theorem all_step {α : Type} {p : List α} {f : α → Bool} {k : Nat} {b : α} (h : p[k]? = some b) : (p.take (k + 1)).all f = ((p.take k).all f && f b) := by
  rw [List.take_add_one, h]; simp
theorem all_bad {α : Type} {p : List α} {f : α → Bool} {k : Nat} {b : α} (h : p[k]? = some b) (hf : f b = false) : p.all f = false := by
  rw [List.all_eq_false]; exact ⟨b, List.mem_of_getElem? h, by rw [hf]; simp⟩

theorem indexByte_c (h : IH) (s : List UInt8) (c : UInt8) : ICalls Tryd.prog 83 [.str s, .int .u8 c.toNat] h fun r h' => r = .int .i64 (Lib.indexByte s c) ∧ h' = h := by
  refine icalls (.of ok83) (Nat.le_of_ble_eq_true rfl) ?_
  unfold c83
  simp (disch := (first | omega | assumption | (simp only [push_n, set_n, put_n, List.length_cons, List.length_nil, List.length_append, Nat.reduceAdd]; done) | (simp only [push_n, set_n, put_n, List.length_cons, List.length_nil, List.length_append]; omega) | (simp only [List.all_cons, List.all_nil, one_bool, one_int, one_str, one_ptr, one_nilptr, one_slice, one_eslice, one_nilslice, one_func, one_iface, one_niliface, Bool.and_true, Bool.true_and, List.getD_cons_zero, List.getD_cons_succ, List.contains_cons, List.contains_nil, Bool.or_true, Bool.true_or, Bool.or_false, Bool.false_or, Nat.reduceBEq, *]; done) | fail)) only [go_sem, Hold.p, HoldK.k, HoldL.K, HoldL.body, Nat.reduceBEq, Nat.reduceAdd, reduceIte]
  refine callA_of (sIndexByte_c h s c) ?_
  rintro r h' ⟨rfl, rfl⟩
  simp (disch := (first | omega | assumption | (simp only [push_n, set_n, put_n, List.length_cons, List.length_nil, List.length_append, Nat.reduceAdd]; done) | (simp only [push_n, set_n, put_n, List.length_cons, List.length_nil, List.length_append]; omega) | (simp only [List.all_cons, List.all_nil, one_bool, one_int, one_str, one_ptr, one_nilptr, one_slice, one_eslice, one_nilslice, one_func, one_iface, one_niliface, Bool.and_true, Bool.true_and, List.getD_cons_zero, List.getD_cons_succ, List.contains_cons, List.contains_nil, Bool.or_true, Bool.true_or, Bool.or_false, Bool.false_or, Nat.reduceBEq, *]; done) | fail)) only [go_sem, Hold.p, HoldK.k, HoldL.K, HoldL.body, Nat.reduceBEq, Nat.reduceAdd, reduceIte]
/-! Paths. -/
theorem idx_path (b : UInt8) : decide (0 ≤ Lib.indexByte [46, 45, 95, 47] b) = (decide ((b.toNat : Int) = 46) || decide ((b.toNat : Int) = 45) || decide ((b.toNat : Int) = 95) || decide ((b.toNat : Int) = 47)) := by
  have key : ∀ n : Fin 256, decide (0 ≤ Lib.indexByte [46, 45, 95, 47] (UInt8.ofNat n.val)) = (decide ((n.val : Int) = 46) || decide ((n.val : Int) = 45) || decide ((n.val : Int) = 95) || decide ((n.val : Int) = 47)) := by decide +kernel
  have := key ⟨b.toNat, b.toNat_lt⟩
  simpa using this
/-- impl's way of telling a byte of a path. -/
theorem path_chain (b : UInt8) : ((((decide (97 ≤ (b.toNat : Int)) && decide ((b.toNat : Int) ≤ 122)) || (decide (65 ≤ (b.toNat : Int)) && decide ((b.toNat : Int) ≤ 90))) || (decide (48 ≤ (b.toNat : Int)) && decide ((b.toNat : Int) ≤ 57))) || decide (0 ≤ Lib.indexByte [46, 45, 95, 47] b)) = pathB b := by
  rw [idx_path]
  unfold pathB plainB
  have key : ∀ n : Fin 256, ((((decide (97 ≤ (n.val : Int)) && decide ((n.val : Int) ≤ 122)) || (decide (65 ≤ (n.val : Int)) && decide ((n.val : Int) ≤ 90))) || (decide (48 ≤ (n.val : Int)) && decide ((n.val : Int) ≤ 57))) || (decide ((n.val : Int) = 46) || decide ((n.val : Int) = 45) || decide ((n.val : Int) = 95) || decide ((n.val : Int) = 47))) = (((decide (97 ≤ (n.val : Int)) && decide ((n.val : Int) ≤ 122)) || (decide (65 ≤ (n.val : Int)) && decide ((n.val : Int) ≤ 90)) || (decide (48 ≤ (n.val : Int)) && decide ((n.val : Int) ≤ 57)) || decide ((n.val : Int) = 46) || decide ((n.val : Int) = 45) || decide ((n.val : Int) = 95) || decide ((n.val : Int) = 47) || decide ((n.val : Int) = 58)) && !decide ((n.val : Int) = 58)) := by decide +kernel
  exact key ⟨b.toNat, b.toNat_lt⟩
theorem u8_dec (c k : UInt8) : decide ((c.toNat : Int) = (k.toNat : Int)) = decide (c = k) := by
  by_cases h : c = k
  · subst h; simp
  · have h2 : ¬ ((c.toNat : Int) = (k.toNat : Int)) := fun e => h (UInt8.toNat_inj.1 (by omega))
    rw [decide_eq_false h, decide_eq_false h2]
theorem pathOK_nil : pathOK [] = false := rfl
theorem pathOK_head (c : UInt8) (r : List UInt8) : pathOK (c :: r) = (!(decide (((c :: r).length : Int) < 1) || decide (200 < ((c :: r).length : Int)) || !decide ((c.toNat : Int) = 47)) && (c :: r).all pathB) := by
  unfold pathOK
  have e1 : ((c :: r)[0]? == some 47) = decide ((c.toNat : Int) = 47) := by
    rw [List.getElem?_cons_zero]
    have := u8_dec c 47
    rw [show ((47 : UInt8).toNat : Int) = 47 from rfl] at this
    rw [this]
    by_cases h : c = 47
    · subst h; rfl
    · simp [h]
  have e2 : decide (1 ≤ (c :: r).length) = !decide (((c :: r).length : Int) < 1) := by
    rw [List.length_cons]
    have h1 : decide (1 ≤ r.length + 1) = true := decide_eq_true (by omega)
    have h2 : decide (((r.length + 1 : Nat) : Int) < 1) = false := decide_eq_false (by omega)
    rw [h1, h2]; rfl
  have e3 : decide ((c :: r).length ≤ 200) = !decide (200 < ((c :: r).length : Int)) := by
    by_cases h : (c :: r).length ≤ 200
    · rw [decide_eq_true h, decide_eq_false (by omega)]; rfl
    · rw [decide_eq_false h, decide_eq_true (by omega)]; rfl
  rw [e1, e2, e3]
  simp only [Bool.not_or, Bool.not_not]

theorem idx0 (c : UInt8) (r : List UInt8) : idxSF (.str (c :: r)) (.int .i64 0) = some (.int .u8 c.toNat) := rfl

theorem specPathOK_c (h : IH) (p : List UInt8) (hm : p.length ≤ 1048576) : ICalls Tryd.prog 71 [.str p] h fun r h' => r = .bool (pathOK p) ∧ h' = h := by
  refine icalls (.of ok71) (Nat.le_of_ble_eq_true rfl) ?_
  unfold c71
  cases p with
  | nil =>
    have d1 : decide (((0 : Nat) : Int) < 1) = true := rfl
    simp (disch := (first | omega | assumption | (simp only [push_n, set_n, put_n, List.length_cons, List.length_nil, List.length_append, Nat.reduceAdd]; done) | (simp only [push_n, set_n, put_n, List.length_cons, List.length_nil, List.length_append]; omega) | (simp only [List.all_cons, List.all_nil, one_bool, one_int, one_str, one_ptr, one_nilptr, one_slice, one_eslice, one_nilslice, one_func, one_iface, one_niliface, Bool.and_true, Bool.true_and, List.getD_cons_zero, List.getD_cons_succ, List.contains_cons, List.contains_nil, Bool.or_true, Bool.true_or, Bool.or_false, Bool.false_or, Nat.reduceBEq, *]; done) | fail)) only [d1, Bool.true_or, go_sem, Hold.p, HoldK.k, HoldL.K, HoldL.body, Nat.reduceBEq, Nat.reduceAdd, reduceIte]
    rw [pathOK_nil]
  | cons c r =>
    have h0 := idx0 c r
    have hp := pathOK_head c r
    generalize hP : c :: r = p at h0 hp hm ⊢
    simp (disch := (first | omega | assumption | (simp only [push_n, set_n, put_n, List.length_cons, List.length_nil, List.length_append, Nat.reduceAdd]; done) | (simp only [push_n, set_n, put_n, List.length_cons, List.length_nil, List.length_append]; omega) | (simp only [List.all_cons, List.all_nil, one_bool, one_int, one_str, one_ptr, one_nilptr, one_slice, one_eslice, one_nilslice, one_func, one_iface, one_niliface, Bool.and_true, Bool.true_and, List.getD_cons_zero, List.getD_cons_succ, List.contains_cons, List.contains_nil, Bool.or_true, Bool.true_or, Bool.or_false, Bool.false_or, Nat.reduceBEq, *]; done) | fail)) only [h0, go_sem, Hold.p, HoldK.k, HoldL.K, HoldL.body, Nat.reduceBEq, Nat.reduceAdd, reduceIte]
    refine test_of (fun hc => ?_) (fun hc => ?_)
    · simp (disch := (first | omega | assumption | (simp only [push_n, set_n, put_n, List.length_cons, List.length_nil, List.length_append, Nat.reduceAdd]; done) | (simp only [push_n, set_n, put_n, List.length_cons, List.length_nil, List.length_append]; omega) | (simp only [List.all_cons, List.all_nil, one_bool, one_int, one_str, one_ptr, one_nilptr, one_slice, one_eslice, one_nilslice, one_func, one_iface, one_niliface, Bool.and_true, Bool.true_and, List.getD_cons_zero, List.getD_cons_succ, List.contains_cons, List.contains_nil, Bool.or_true, Bool.true_or, Bool.or_false, Bool.false_or, Nat.reduceBEq, *]; done) | fail)) only [go_sem, Hold.p, HoldK.k, HoldL.K, HoldL.body, Nat.reduceBEq, Nat.reduceAdd, reduceIte]
      rw [hp, hc]; rfl
    · rw [hc] at hp
      simp (disch := (first | omega | assumption | (simp only [push_n, set_n, put_n, List.length_cons, List.length_nil, List.length_append, Nat.reduceAdd]; done) | (simp only [push_n, set_n, put_n, List.length_cons, List.length_nil, List.length_append]; omega) | (simp only [List.all_cons, List.all_nil, one_bool, one_int, one_str, one_ptr, one_nilptr, one_slice, one_eslice, one_nilslice, one_func, one_iface, one_niliface, Bool.and_true, Bool.true_and, List.getD_cons_zero, List.getD_cons_succ, List.contains_cons, List.contains_nil, Bool.or_true, Bool.true_or, Bool.or_false, Bool.false_or, Nat.reduceBEq, *]; done) | fail)) only [go_sem, Hold.p, HoldK.k, HoldL.K, HoldL.body, Nat.reduceBEq, Nat.reduceAdd, reduceIte]
      refine loop_at (fun m e g => ∃ k : Nat, m = p.length - k ∧ k ≤ p.length ∧ e 0 = .str p ∧ e 3 = .int .i64 (k : Nat) ∧ (p.take k).all pathB = true ∧ g = h) p.length ?_ ?_
      · refine ⟨0, by omega, by omega, ?_⟩
        simp (disch := (first | omega | assumption | (simp only [push_n, set_n, put_n, List.length_cons, List.length_nil, List.length_append, Nat.reduceAdd]; done) | (simp only [push_n, set_n, put_n, List.length_cons, List.length_nil, List.length_append]; omega) | (simp only [List.all_cons, List.all_nil, one_bool, one_int, one_str, one_ptr, one_nilptr, one_slice, one_eslice, one_nilslice, one_func, one_iface, one_niliface, Bool.and_true, Bool.true_and, List.getD_cons_zero, List.getD_cons_succ, List.contains_cons, List.contains_nil, Bool.or_true, Bool.true_or, Bool.or_false, Bool.false_or, Nat.reduceBEq, *]; done) | fail)) only [go_sem, Hold.p, HoldK.k, HoldL.K, HoldL.body, Nat.reduceBEq, Nat.reduceAdd, reduceIte]
        exact ⟨rfl, rfl⟩
      · rintro m e g ⟨k, rfl, hk, i0, i3, hall, rfl⟩
        simp (disch := (first | omega | assumption | (simp only [push_n, set_n, put_n, List.length_cons, List.length_nil, List.length_append, Nat.reduceAdd]; done) | (simp only [push_n, set_n, put_n, List.length_cons, List.length_nil, List.length_append]; omega) | (simp only [List.all_cons, List.all_nil, one_bool, one_int, one_str, one_ptr, one_nilptr, one_slice, one_eslice, one_nilslice, one_func, one_iface, one_niliface, Bool.and_true, Bool.true_and, List.getD_cons_zero, List.getD_cons_succ, List.contains_cons, List.contains_nil, Bool.or_true, Bool.true_or, Bool.or_false, Bool.false_or, Nat.reduceBEq, *]; done) | fail)) only [i0, i3, go_sem, Hold.p, HoldK.k, HoldL.K, HoldL.body, Nat.reduceBEq, Nat.reduceAdd, reduceIte]
        refine test_dec (fun hb => ?_) (fun hb => ?_)
        · have hk' : k < p.length := by omega
          obtain ⟨b, hb'⟩ : ∃ b, p[k]? = some b := ⟨_, List.getElem?_eq_getElem hk'⟩
          have hx := idxS_at (q := .i64) hb'
          have w1 : wr .i64 ((k : Int) + 1) = ((k + 1 : Nat) : Int) := by rw [wr64 _ (by omega)]; rfl
          simp (disch := (first | omega | assumption | (simp only [push_n, set_n, put_n, List.length_cons, List.length_nil, List.length_append, Nat.reduceAdd]; done) | (simp only [push_n, set_n, put_n, List.length_cons, List.length_nil, List.length_append]; omega) | (simp only [List.all_cons, List.all_nil, one_bool, one_int, one_str, one_ptr, one_nilptr, one_slice, one_eslice, one_nilslice, one_func, one_iface, one_niliface, Bool.and_true, Bool.true_and, List.getD_cons_zero, List.getD_cons_succ, List.contains_cons, List.contains_nil, Bool.or_true, Bool.true_or, Bool.or_false, Bool.false_or, Nat.reduceBEq, *]; done) | fail)) only [i0, i3, hx, go_sem, Hold.p, HoldK.k, HoldL.K, HoldL.body, Nat.reduceBEq, Nat.reduceAdd, reduceIte]
          refine callA_of (l20Plain_c _ b) ?_
          rintro r' g' ⟨rfl, rfl⟩
          simp (disch := (first | omega | assumption | (simp only [push_n, set_n, put_n, List.length_cons, List.length_nil, List.length_append, Nat.reduceAdd]; done) | (simp only [push_n, set_n, put_n, List.length_cons, List.length_nil, List.length_append]; omega) | (simp only [List.all_cons, List.all_nil, one_bool, one_int, one_str, one_ptr, one_nilptr, one_slice, one_eslice, one_nilslice, one_func, one_iface, one_niliface, Bool.and_true, Bool.true_and, List.getD_cons_zero, List.getD_cons_succ, List.contains_cons, List.contains_nil, Bool.or_true, Bool.true_or, Bool.or_false, Bool.false_or, Nat.reduceBEq, *]; done) | fail)) only [i0, i3, hx, go_sem, Hold.p, HoldK.k, HoldL.K, HoldL.body, Nat.reduceBEq, Nat.reduceAdd, reduceIte]
          have hpb : (!plainB b || decide ((b.toNat : Int) = 58)) = !pathB b := by unfold pathB; simp
          rw [hpb]
          refine test_of (fun hc2 => ?_) (fun hc2 => ?_)
          · simp (disch := (first | omega | assumption | (simp only [push_n, set_n, put_n, List.length_cons, List.length_nil, List.length_append, Nat.reduceAdd]; done) | (simp only [push_n, set_n, put_n, List.length_cons, List.length_nil, List.length_append]; omega) | (simp only [List.all_cons, List.all_nil, one_bool, one_int, one_str, one_ptr, one_nilptr, one_slice, one_eslice, one_nilslice, one_func, one_iface, one_niliface, Bool.and_true, Bool.true_and, List.getD_cons_zero, List.getD_cons_succ, List.contains_cons, List.contains_nil, Bool.or_true, Bool.true_or, Bool.or_false, Bool.false_or, Nat.reduceBEq, *]; done) | fail)) only [go_sem, Hold.p, HoldK.k, HoldL.K, HoldL.body, Nat.reduceBEq, Nat.reduceAdd, reduceIte]
            rw [hp, all_bad hb' (by simpa using hc2)]; rfl
          · simp (disch := (first | omega | assumption | (simp only [push_n, set_n, put_n, List.length_cons, List.length_nil, List.length_append, Nat.reduceAdd]; done) | (simp only [push_n, set_n, put_n, List.length_cons, List.length_nil, List.length_append]; omega) | (simp only [List.all_cons, List.all_nil, one_bool, one_int, one_str, one_ptr, one_nilptr, one_slice, one_eslice, one_nilslice, one_func, one_iface, one_niliface, Bool.and_true, Bool.true_and, List.getD_cons_zero, List.getD_cons_succ, List.contains_cons, List.contains_nil, Bool.or_true, Bool.true_or, Bool.or_false, Bool.false_or, Nat.reduceBEq, *]; done) | fail)) only [i0, i3, w1, go_sem, Hold.p, HoldK.k, HoldL.K, HoldL.body, Nat.reduceBEq, Nat.reduceAdd, reduceIte]
            refine ⟨_, ?_, k + 1, rfl, by omega, rfl, ?_⟩
            · omega
            · rw [all_step hb', hall]; simpa using hc2
        · have hk' : k = p.length := by omega
          subst hk'
          simp (disch := (first | omega | assumption | (simp only [push_n, set_n, put_n, List.length_cons, List.length_nil, List.length_append, Nat.reduceAdd]; done) | (simp only [push_n, set_n, put_n, List.length_cons, List.length_nil, List.length_append]; omega) | (simp only [List.all_cons, List.all_nil, one_bool, one_int, one_str, one_ptr, one_nilptr, one_slice, one_eslice, one_nilslice, one_func, one_iface, one_niliface, Bool.and_true, Bool.true_and, List.getD_cons_zero, List.getD_cons_succ, List.contains_cons, List.contains_nil, Bool.or_true, Bool.true_or, Bool.or_false, Bool.false_or, Nat.reduceBEq, *]; done) | fail)) only [go_sem, Hold.p, HoldK.k, HoldL.K, HoldL.body, Nat.reduceBEq, Nat.reduceAdd, reduceIte]
          rw [List.take_length] at hall
          rw [hp, hall]; rfl

theorem implPathOK_c (h : IH) (p : List UInt8) (hm : p.length ≤ 1048576) : ICalls Tryd.prog 72 [.str p] h fun r h' => r = .bool (pathOK p) ∧ Ext h h' := by
  refine icalls (.of ok72) (Nat.le_of_ble_eq_true rfl) ?_
  unfold c72
  cases p with
  | nil =>
    have d1 : decide (((0 : Nat) : Int) < 1) = true := rfl
    simp (disch := (first | omega | assumption | (simp only [push_n, set_n, put_n, List.length_cons, List.length_nil, List.length_append, Nat.reduceAdd]; done) | (simp only [push_n, set_n, put_n, List.length_cons, List.length_nil, List.length_append]; omega) | (simp only [List.all_cons, List.all_nil, one_bool, one_int, one_str, one_ptr, one_nilptr, one_slice, one_eslice, one_nilslice, one_func, one_iface, one_niliface, Bool.and_true, Bool.true_and, List.getD_cons_zero, List.getD_cons_succ, List.contains_cons, List.contains_nil, Bool.or_true, Bool.true_or, Bool.or_false, Bool.false_or, Nat.reduceBEq, *]; done) | fail)) only [d1, Bool.true_or, go_sem, Hold.p, HoldK.k, HoldL.K, HoldL.body, Nat.reduceBEq, Nat.reduceAdd, reduceIte]
    rw [pathOK_nil]
    exact ⟨rfl, Ext.refl _⟩
  | cons c r =>
    have h0 := idx0 c r
    have hp := pathOK_head c r
    have hne : c :: r ≠ [] := by simp
    generalize hP : c :: r = p at h0 hp hm hne ⊢
    simp (disch := (first | omega | assumption | (simp only [push_n, set_n, put_n, List.length_cons, List.length_nil, List.length_append, Nat.reduceAdd]; done) | (simp only [push_n, set_n, put_n, List.length_cons, List.length_nil, List.length_append]; omega) | (simp only [List.all_cons, List.all_nil, one_bool, one_int, one_str, one_ptr, one_nilptr, one_slice, one_eslice, one_nilslice, one_func, one_iface, one_niliface, Bool.and_true, Bool.true_and, List.getD_cons_zero, List.getD_cons_succ, List.contains_cons, List.contains_nil, Bool.or_true, Bool.true_or, Bool.or_false, Bool.false_or, Nat.reduceBEq, *]; done) | fail)) only [h0, go_sem, Hold.p, HoldK.k, HoldL.K, HoldL.body, Nat.reduceBEq, Nat.reduceAdd, reduceIte]
    refine test_of (fun hc => ?_) (fun hc => ?_)
    · simp (disch := (first | omega | assumption | (simp only [push_n, set_n, put_n, List.length_cons, List.length_nil, List.length_append, Nat.reduceAdd]; done) | (simp only [push_n, set_n, put_n, List.length_cons, List.length_nil, List.length_append]; omega) | (simp only [List.all_cons, List.all_nil, one_bool, one_int, one_str, one_ptr, one_nilptr, one_slice, one_eslice, one_nilslice, one_func, one_iface, one_niliface, Bool.and_true, Bool.true_and, List.getD_cons_zero, List.getD_cons_succ, List.contains_cons, List.contains_nil, Bool.or_true, Bool.true_or, Bool.or_false, Bool.false_or, Nat.reduceBEq, *]; done) | fail)) only [go_sem, Hold.p, HoldK.k, HoldL.K, HoldL.body, Nat.reduceBEq, Nat.reduceAdd, reduceIte]
      refine ⟨?_, Ext.refl _⟩
      rw [hp, hc]; rfl
    · rw [hc] at hp
      simp (disch := (first | omega | assumption | (simp only [push_n, set_n, put_n, List.length_cons, List.length_nil, List.length_append, Nat.reduceAdd]; done) | (simp only [push_n, set_n, put_n, List.length_cons, List.length_nil, List.length_append]; omega) | (simp only [List.all_cons, List.all_nil, one_bool, one_int, one_str, one_ptr, one_nilptr, one_slice, one_eslice, one_nilslice, one_func, one_iface, one_niliface, Bool.and_true, Bool.true_and, List.getD_cons_zero, List.getD_cons_succ, List.contains_cons, List.contains_nil, Bool.or_true, Bool.true_or, Bool.or_false, Bool.false_or, Nat.reduceBEq, *]; done) | fail)) only [go_sem, Hold.p, HoldK.k, HoldL.K, HoldL.body, Nat.reduceBEq, Nat.reduceAdd, reduceIte]
      rw [s2bA_some hne (by omega)]
      generalize hq_g : IH.push h (IObj.rows (strRows p) 5 1 false) = g
      have e_g : Ext h g := by rw [← hq_g]; exact (Ext.refl _).push _
      have l_g : g.n = h.n + 1 := by rw [← hq_g]; rfl
      have b : At g h.n (IObj.rows (strRows p) 5 1 false) := by rw [← hq_g]; exact At.new _ _
      clear hq_g
      have sl : SlR g 1 (.slice h.n 0 p.length) (strRows p) := SlR.whole b.eq (strRows_len _) b.lt
      try simp (disch := (first | omega | assumption | (simp only [push_n, set_n, put_n, List.length_cons, List.length_nil, List.length_append, Nat.reduceAdd]; done) | (simp only [push_n, set_n, put_n, List.length_cons, List.length_nil, List.length_append]; omega) | (simp only [List.all_cons, List.all_nil, one_bool, one_int, one_str, one_ptr, one_nilptr, one_slice, one_eslice, one_nilslice, one_func, one_iface, one_niliface, Bool.and_true, Bool.true_and, List.getD_cons_zero, List.getD_cons_succ, List.contains_cons, List.contains_nil, Bool.or_true, Bool.true_or, Bool.or_false, Bool.false_or, Nat.reduceBEq, *]; done) | fail)) only [go_sem, Hold.p, HoldK.k, HoldL.K, HoldL.body, Nat.reduceBEq, Nat.reduceAdd, reduceIte]
      refine loop_at (fun m e g' => ∃ k : Nat, m = p.length - k ∧ k ≤ p.length ∧ e 19 = .slice h.n 0 p.length ∧ e 20 = .int .i64 (p.length : Nat) ∧ e 21 = .int .i64 (k : Nat) ∧ (p.take k).all pathB = true ∧ g' = g) p.length ?_ ?_
      · refine ⟨0, by omega, by omega, ?_⟩
        simp (disch := (first | omega | assumption | (simp only [push_n, set_n, put_n, List.length_cons, List.length_nil, List.length_append, Nat.reduceAdd]; done) | (simp only [push_n, set_n, put_n, List.length_cons, List.length_nil, List.length_append]; omega) | (simp only [List.all_cons, List.all_nil, one_bool, one_int, one_str, one_ptr, one_nilptr, one_slice, one_eslice, one_nilslice, one_func, one_iface, one_niliface, Bool.and_true, Bool.true_and, List.getD_cons_zero, List.getD_cons_succ, List.contains_cons, List.contains_nil, Bool.or_true, Bool.true_or, Bool.or_false, Bool.false_or, Nat.reduceBEq, *]; done) | fail)) only [go_sem, Hold.p, HoldK.k, HoldL.K, HoldL.body, Nat.reduceBEq, Nat.reduceAdd, reduceIte]
        first | rfl | exact ⟨rfl, rfl⟩ | exact ⟨rfl, rfl, rfl⟩
      · rintro m e g' ⟨k, rfl, hk, i19, i20, i21, hall, rfl⟩
        simp (disch := (first | omega | assumption | (simp only [push_n, set_n, put_n, List.length_cons, List.length_nil, List.length_append, Nat.reduceAdd]; done) | (simp only [push_n, set_n, put_n, List.length_cons, List.length_nil, List.length_append]; omega) | (simp only [List.all_cons, List.all_nil, one_bool, one_int, one_str, one_ptr, one_nilptr, one_slice, one_eslice, one_nilslice, one_func, one_iface, one_niliface, Bool.and_true, Bool.true_and, List.getD_cons_zero, List.getD_cons_succ, List.contains_cons, List.contains_nil, Bool.or_true, Bool.true_or, Bool.or_false, Bool.false_or, Nat.reduceBEq, *]; done) | fail)) only [i20, i21, go_sem, Hold.p, HoldK.k, HoldL.K, HoldL.body, Nat.reduceBEq, Nat.reduceAdd, reduceIte]
        refine test_dec (fun hb => ?_) (fun hb => ?_)
        · have hk' : k < p.length := by omega
          obtain ⟨x, hx⟩ : ∃ b, p[k]? = some b := ⟨_, List.getElem?_eq_getElem hk'⟩
          obtain ⟨l, j, hia, hll, hrow⟩ := sl.at (m := k) (strRows_at hx) .i64
          have hcl := cellO_row hrow
          have w1 : wr .i64 ((k : Int) + 1) = ((k + 1 : Nat) : Int) := by rw [wr64 _ (by omega)]; rfl
          simp (disch := (first | omega | assumption | (simp only [push_n, set_n, put_n, List.length_cons, List.length_nil, List.length_append, Nat.reduceAdd]; done) | (simp only [push_n, set_n, put_n, List.length_cons, List.length_nil, List.length_append]; omega) | (simp only [List.all_cons, List.all_nil, one_bool, one_int, one_str, one_ptr, one_nilptr, one_slice, one_eslice, one_nilslice, one_func, one_iface, one_niliface, Bool.and_true, Bool.true_and, List.getD_cons_zero, List.getD_cons_succ, List.contains_cons, List.contains_nil, Bool.or_true, Bool.true_or, Bool.or_false, Bool.false_or, Nat.reduceBEq, *]; done) | fail)) only [i19, i20, i21, hia, hcl, go_sem, Hold.p, HoldK.k, HoldL.K, HoldL.body, Nat.reduceBEq, Nat.reduceAdd, reduceIte]
          refine guard_pureF (v := .int .i64 (Lib.indexByte [46, 45, 95, 47] x)) (fun hb => ?_) ?_
          · simp (disch := (first | omega | assumption | (simp only [push_n, set_n, put_n, List.length_cons, List.length_nil, List.length_append, Nat.reduceAdd]; done) | (simp only [push_n, set_n, put_n, List.length_cons, List.length_nil, List.length_append]; omega) | (simp only [List.all_cons, List.all_nil, one_bool, one_int, one_str, one_ptr, one_nilptr, one_slice, one_eslice, one_nilslice, one_func, one_iface, one_niliface, Bool.and_true, Bool.true_and, List.getD_cons_zero, List.getD_cons_succ, List.contains_cons, List.contains_nil, Bool.or_true, Bool.true_or, Bool.or_false, Bool.false_or, Nat.reduceBEq, *]; done) | fail)) only [hb, go_sem, Hold.p, HoldK.k, HoldL.K, HoldL.body, Nat.reduceBEq, Nat.reduceAdd, reduceIte]
            exact indexByte_c _ _ _
          simp (disch := (first | omega | assumption | (simp only [push_n, set_n, put_n, List.length_cons, List.length_nil, List.length_append, Nat.reduceAdd]; done) | (simp only [push_n, set_n, put_n, List.length_cons, List.length_nil, List.length_append]; omega) | (simp only [List.all_cons, List.all_nil, one_bool, one_int, one_str, one_ptr, one_nilptr, one_slice, one_eslice, one_nilslice, one_func, one_iface, one_niliface, Bool.and_true, Bool.true_and, List.getD_cons_zero, List.getD_cons_succ, List.contains_cons, List.contains_nil, Bool.or_true, Bool.true_or, Bool.or_false, Bool.false_or, Nat.reduceBEq, *]; done) | fail)) only [path_chain, go_sem, Hold.p, HoldK.k, HoldL.K, HoldL.body, Nat.reduceBEq, Nat.reduceAdd, reduceIte]
          refine test_of (fun hc2 => ?_) (fun hc2 => ?_)
          · simp (disch := (first | omega | assumption | (simp only [push_n, set_n, put_n, List.length_cons, List.length_nil, List.length_append, Nat.reduceAdd]; done) | (simp only [push_n, set_n, put_n, List.length_cons, List.length_nil, List.length_append]; omega) | (simp only [List.all_cons, List.all_nil, one_bool, one_int, one_str, one_ptr, one_nilptr, one_slice, one_eslice, one_nilslice, one_func, one_iface, one_niliface, Bool.and_true, Bool.true_and, List.getD_cons_zero, List.getD_cons_succ, List.contains_cons, List.contains_nil, Bool.or_true, Bool.true_or, Bool.or_false, Bool.false_or, Nat.reduceBEq, *]; done) | fail)) only [go_sem, Hold.p, HoldK.k, HoldL.K, HoldL.body, Nat.reduceBEq, Nat.reduceAdd, reduceIte]
            refine ⟨?_, e_g⟩
            rw [hp, all_bad hx (by simpa using hc2)]; rfl
          · simp (disch := (first | omega | assumption | (simp only [push_n, set_n, put_n, List.length_cons, List.length_nil, List.length_append, Nat.reduceAdd]; done) | (simp only [push_n, set_n, put_n, List.length_cons, List.length_nil, List.length_append]; omega) | (simp only [List.all_cons, List.all_nil, one_bool, one_int, one_str, one_ptr, one_nilptr, one_slice, one_eslice, one_nilslice, one_func, one_iface, one_niliface, Bool.and_true, Bool.true_and, List.getD_cons_zero, List.getD_cons_succ, List.contains_cons, List.contains_nil, Bool.or_true, Bool.true_or, Bool.or_false, Bool.false_or, Nat.reduceBEq, *]; done) | fail)) only [i20, i21, w1, go_sem, Hold.p, HoldK.k, HoldL.K, HoldL.body, Nat.reduceBEq, Nat.reduceAdd, reduceIte]
            refine ⟨_, ?_, k + 1, rfl, by omega, ?_⟩
            · omega
            · simp (disch := (first | omega | assumption | (simp only [push_n, set_n, put_n, List.length_cons, List.length_nil, List.length_append, Nat.reduceAdd]; done) | (simp only [push_n, set_n, put_n, List.length_cons, List.length_nil, List.length_append]; omega) | (simp only [List.all_cons, List.all_nil, one_bool, one_int, one_str, one_ptr, one_nilptr, one_slice, one_eslice, one_nilslice, one_func, one_iface, one_niliface, Bool.and_true, Bool.true_and, List.getD_cons_zero, List.getD_cons_succ, List.contains_cons, List.contains_nil, Bool.or_true, Bool.true_or, Bool.or_false, Bool.false_or, Nat.reduceBEq, *]; done) | fail)) only [i19, i20, go_sem, Hold.p, HoldK.k, HoldL.K, HoldL.body, Nat.reduceBEq, Nat.reduceAdd, reduceIte]
              rw [all_step hx, hall]; first | (simpa using hc2) | exact ⟨rfl, by simpa using hc2⟩
        · have hk' : k = p.length := by omega
          subst hk'
          simp (disch := (first | omega | assumption | (simp only [push_n, set_n, put_n, List.length_cons, List.length_nil, List.length_append, Nat.reduceAdd]; done) | (simp only [push_n, set_n, put_n, List.length_cons, List.length_nil, List.length_append]; omega) | (simp only [List.all_cons, List.all_nil, one_bool, one_int, one_str, one_ptr, one_nilptr, one_slice, one_eslice, one_nilslice, one_func, one_iface, one_niliface, Bool.and_true, Bool.true_and, List.getD_cons_zero, List.getD_cons_succ, List.contains_cons, List.contains_nil, Bool.or_true, Bool.true_or, Bool.or_false, Bool.false_or, Nat.reduceBEq, *]; done) | fail)) only [go_sem, Hold.p, HoldK.k, HoldL.K, HoldL.body, Nat.reduceBEq, Nat.reduceAdd, reduceIte]
          rw [List.take_length] at hall
          refine ⟨?_, e_g⟩
          rw [hp, hall]; rfl

/-! Verbs. -/
def verbB (v : List UInt8) : Bool := ((decide (v = [103, 101, 116]) || decide (v = [112, 117, 116])) || decide (v = [100, 101, 108, 101, 116, 101])) || decide (v = [108, 105, 115, 116])
theorem verbOK_c (h : IH) (v : List UInt8) : ICalls Tryd.prog 70 [.str v] h fun r h' => r = .bool (verbB v) ∧ h' = h := by
  refine icalls (.of ok70) (Nat.le_of_ble_eq_true rfl) ?_
  unfold c70
  simp (disch := (first | omega | assumption | (simp only [push_n, set_n, put_n, List.length_cons, List.length_nil, List.length_append, Nat.reduceAdd]; done) | (simp only [push_n, set_n, put_n, List.length_cons, List.length_nil, List.length_append]; omega) | (simp only [List.all_cons, List.all_nil, one_bool, one_int, one_str, one_ptr, one_nilptr, one_slice, one_eslice, one_nilslice, one_func, one_iface, one_niliface, Bool.and_true, Bool.true_and, List.getD_cons_zero, List.getD_cons_succ, List.contains_cons, List.contains_nil, Bool.or_true, Bool.true_or, Bool.or_false, Bool.false_or, Nat.reduceBEq, *]; done) | fail)) only [go_sem, Hold.p, HoldK.k, HoldL.K, HoldL.body, Nat.reduceBEq, Nat.reduceAdd, reduceIte]
  rfl

/-! Fields. -/
def headOK (n v : List UInt8) : Bool := decide (1 ≤ n.length) && decide (n.length ≤ 40) && !decide (n = lengthS) && decide (v.length ≤ 200)
theorem headC (n v : List UInt8) : (((decide ((n.length : Int) < 1) || decide (40 < (n.length : Int))) || decide (n = [108, 101, 110, 103, 116, 104])) || decide (200 < (v.length : Int))) = !headOK n v := by
  unfold headOK
  have e1 : decide ((n.length : Int) < 1) = !decide (1 ≤ n.length) := by
    by_cases h : 1 ≤ n.length
    · rw [decide_eq_true h, decide_eq_false (by omega)]; rfl
    · rw [decide_eq_false h, decide_eq_true (by omega)]; rfl
  have e2 : decide (40 < (n.length : Int)) = !decide (n.length ≤ 40) := by
    by_cases h : n.length ≤ 40
    · rw [decide_eq_true h, decide_eq_false (by omega)]; rfl
    · rw [decide_eq_false h, decide_eq_true (by omega)]; rfl
  have e3 : decide (200 < (v.length : Int)) = !decide (v.length ≤ 200) := by
    by_cases h : v.length ≤ 200
    · rw [decide_eq_true h, decide_eq_false (by omega)]; rfl
    · rw [decide_eq_false h, decide_eq_true (by omega)]; rfl
  rw [e1, e2, e3]
  simp only [Bool.not_and, Bool.not_not, lengthS]
  rfl
theorem fieldOK_eq (n v : List UInt8) : fieldOK n v = (headOK n v && n.all nameB && v.all valB && noEnds v) := by
  unfold fieldOK headOK; simp only [Bool.and_assoc]
theorem headOK_len {n v : List UInt8} (h : headOK n v = true) : 1 ≤ n.length ∧ n.length ≤ 40 ∧ v.length ≤ 200 := by
  unfold headOK at h
  simp only [Bool.and_eq_true, decide_eq_true_eq] at h
  exact ⟨h.1.1.1, h.1.1.2, h.2⟩
theorem nameC (b : UInt8) : ((decide ((b.toNat : Int) < 97) || decide (122 < (b.toNat : Int))) && !decide ((b.toNat : Int) = 45)) = !nameB b := by
  unfold nameB
  rw [lt_not, lt_not]
  simp only [Bool.not_or, Bool.not_and]
theorem valC (b : UInt8) : (decide ((b.toNat : Int) < 32) || decide (126 < (b.toNat : Int))) = !valB b := by
  unfold valB
  rw [lt_not, lt_not]
  simp only [Bool.not_and]
end
end Go.Proofs.YtaolhgjnlmaooaaDoor
