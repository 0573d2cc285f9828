import Derived.Test.YtecljenjlncfhaaK2
import Derived.Test.YtecljenjlncfhaaProg
import Derived.KernelRfl
set_option linter.unusedSimpArgs false
set_option linter.unusedVariables false
namespace Go.Proofs.Ytecljenjlncfhaa
open Go Go.IW
/-- loop.example/g00003/laws.FnExactBoardFirst -/
def c7 : CC :=
 (.seq (.reg [
   ⟨(some 1), none, .x (.box 35 3 (.t 0))⟩,
   ⟨(some 2), none, .f (.mv (.c (.bool false)))⟩])
 (.seq (.reg [
   ⟨(some 3), none, .f (.mv (.c (.int .i64 1048576)))⟩])
 (.seq (.reg [
   ⟨(some 17), none, .f (.ldA 3 (.t 1))⟩,
   ⟨(some 18), none, .f (.mv (.t 3))⟩,
   ⟨(some 19), none, .x (.call 24 [(.t 17), (.t 18)])⟩,
   ⟨(some 3), none, .f (.mv (.t 19))⟩])
 (.seq (.seq (.reg [
   ⟨(some 20), none, .f (.mv (.t 3))⟩,
   ⟨(some 21), none, .f (.bin .lss (.t 20) (.c (.int .i64 0)))⟩])
 (.cond (.t 21)
  (.seq (.reg [
    ⟨(some 2), none, .f (.mv (.c (.bool true)))⟩])
  .ret)
  .skip))
 (.seq (.reg [
   ⟨(some 23), none, .f (.ldA 3 (.t 1))⟩,
   ⟨(some 24), none, .x (.call 26 [(.t 23)])⟩,
   ⟨(some 25), none, .x (.call 29 [(.t 24)])⟩,
   ⟨(some 22), none, .f (.mv (.t 25))⟩,
   ⟨(some 26), none, .f (.ext 0 (.t 22))⟩,
   ⟨(some 27), none, .f (.ext 1 (.t 22))⟩,
   ⟨(some 28), none, .f (.ext 2 (.t 22))⟩,
   ⟨(some 4), none, .x (.zero 40 3 [(.int .i64 0), (.int .i64 0), .nilslice])⟩,
   ⟨none, none, .x (.st 3 (.t 4) (.t 26))⟩,
   ⟨(some 5), none, .f (.mv (.t 27))⟩,
   ⟨(some 6), none, .f (.mv (.t 28))⟩])
 (.seq (.reg [
   ⟨(some 29), none, .f (.ldA 3 (.t 1))⟩,
   ⟨(some 30), none, .x (.call 26 [(.t 29)])⟩,
   ⟨(some 7), none, .x (.zero 40 3 [(.int .i64 0), (.int .i64 0), .nilslice])⟩,
   ⟨none, none, .x (.st 3 (.t 7) (.t 30))⟩])
 (.seq (.reg [
   ⟨(some 32), none, .f (.ldA 3 (.t 7))⟩,
   ⟨(some 33), none, .x (.call 30 [(.t 32)])⟩,
   ⟨(some 31), none, .f (.mv (.t 33))⟩,
   ⟨(some 34), none, .f (.ext 0 (.t 31))⟩,
   ⟨(some 35), none, .f (.ext 1 (.t 31))⟩,
   ⟨(some 36), none, .f (.ext 2 (.t 31))⟩,
   ⟨(some 8), none, .x (.zero 40 3 [(.int .i64 0), (.int .i64 0), .nilslice])⟩,
   ⟨none, none, .x (.st 3 (.t 8) (.t 34))⟩,
   ⟨(some 9), none, .f (.mv (.t 35))⟩,
   ⟨(some 10), none, .f (.mv (.t 36))⟩])
 (.seq (.seq (.reg [
   ⟨(some 37), none, .f (.ldA 3 (.t 8))⟩,
   ⟨(some 38), none, .f (.ldA 3 (.t 4))⟩,
   ⟨(some 39), none, .x (.call 28 [(.t 37), (.t 38)])⟩,
   ⟨(some 40), none, .f (.un .not (.t 39))⟩,
   ⟨(some 41), none, .f (.mv (.t 40))⟩,
   ⟨(some 42), (some (41, false)), .f (.mv (.t 9))⟩,
   ⟨(some 43), (some (41, false)), .f (.mv (.t 5))⟩,
   ⟨(some 44), (some (41, false)), .f (.bin .neq (.t 42) (.t 43))⟩,
   ⟨(some 45), none, .f (.pick (.t 41) (.c (.bool true)) (.t 44))⟩,
   ⟨(some 46), none, .f (.mv (.t 45))⟩,
   ⟨(some 47), (some (46, false)), .f (.mv (.t 10))⟩,
   ⟨(some 48), (some (46, false)), .f (.mv (.t 6))⟩,
   ⟨(some 49), (some (46, false)), .f (.bin .neq (.t 47) (.t 48))⟩,
   ⟨(some 50), none, .f (.pick (.t 46) (.c (.bool true)) (.t 49))⟩])
 (.cond (.t 50)
  (.seq (.reg [
    ⟨(some 2), none, .f (.mv (.c (.bool false)))⟩])
  .ret)
  .skip))
 (.seq (.seq (.dreg [
   ⟨(some 51), none, .f (.ldA 3 (.t 7))⟩,
   ⟨(some 52), none, .f (.ldA 3 (.t 1))⟩,
   ⟨(some 53), none, .x (.call 26 [(.t 52)])⟩,
   ⟨(some 54), none, .x (.call 28 [(.t 51), (.t 53)])⟩,
   ⟨(some 55), none, .f (.un .not (.t 54))⟩]
   [false, false, true, true, false] [[], [], [1], [0, 2, 1], [3, 0, 2, 1]] [0, 1, 2, 3, 4])
 (.cond (.t 55)
  (.seq (.reg [
    ⟨(some 2), none, .f (.mv (.c (.bool false)))⟩])
  .ret)
  .skip))
 (.seq (.reg [
   ⟨(some 11), none, .f (.mv (.c (.int .i64 1)))⟩])
 (.seq (.reg [
   ⟨(some 56), none, .f (.ldA 3 (.t 7))⟩,
   ⟨(some 57), none, .f (.mv (.t 11))⟩,
   ⟨(some 58), none, .x (.call 31 [(.t 56), (.t 57)])⟩,
   ⟨(some 11), none, .f (.mv (.t 58))⟩])
 (.seq (.seq (.reg [
   ⟨(some 59), none, .f (.mv (.t 11))⟩,
   ⟨(some 60), none, .f (.bin .lss (.t 59) (.c (.int .i64 0)))⟩,
   ⟨(some 61), none, .f (.mv (.t 60))⟩,
   ⟨(some 62), (some (61, false)), .f (.ldA 3 (.t 8))⟩,
   ⟨(some 63), (some (61, false)), .f (.ldA 3 (.t 4))⟩,
   ⟨(some 64), (some (61, false)), .x (.call 28 [(.t 62), (.t 63)])⟩,
   ⟨(some 65), (some (61, false)), .f (.un .not (.t 64))⟩,
   ⟨(some 66), none, .f (.pick (.t 61) (.c (.bool true)) (.t 65))⟩,
   ⟨(some 67), none, .f (.mv (.t 66))⟩,
   ⟨(some 68), (some (67, false)), .f (.mv (.t 9))⟩,
   ⟨(some 69), (some (67, false)), .f (.mv (.t 5))⟩,
   ⟨(some 70), (some (67, false)), .f (.bin .neq (.t 68) (.t 69))⟩,
   ⟨(some 71), none, .f (.pick (.t 67) (.c (.bool true)) (.t 70))⟩,
   ⟨(some 72), none, .f (.mv (.t 71))⟩,
   ⟨(some 73), (some (72, false)), .f (.mv (.t 10))⟩,
   ⟨(some 74), (some (72, false)), .f (.mv (.t 6))⟩,
   ⟨(some 75), (some (72, false)), .f (.bin .neq (.t 73) (.t 74))⟩,
   ⟨(some 76), none, .f (.pick (.t 72) (.c (.bool true)) (.t 75))⟩])
 (.cond (.t 76)
  (.seq (.reg [
    ⟨(some 2), none, .f (.mv (.c (.bool false)))⟩])
  .ret)
  .skip))
 (.seq (.reg [
   ⟨(some 12), none, .f (.mv (.c (.int .i64 1)))⟩])
 (.seq (.reg [
   ⟨(some 77), none, .f (.ldA 3 (.t 8))⟩,
   ⟨(some 78), none, .f (.mv (.t 12))⟩,
   ⟨(some 79), none, .x (.call 31 [(.t 77), (.t 78)])⟩,
   ⟨(some 12), none, .f (.mv (.t 79))⟩])
 (.seq (.reg [
   ⟨(some 13), none, .f (.mv (.c (.int .i64 1)))⟩])
 (.seq (.reg [
   ⟨(some 80), none, .f (.ldA 3 (.t 8))⟩,
   ⟨(some 81), none, .f (.mv (.t 13))⟩,
   ⟨(some 82), none, .x (.call 32 [(.t 80), (.t 81)])⟩,
   ⟨(some 13), none, .f (.mv (.t 82))⟩])
 (.seq (.seq (.reg [
   ⟨(some 83), none, .f (.mv (.t 13))⟩,
   ⟨(some 84), none, .f (.bin .lss (.t 83) (.c (.int .i64 0)))⟩])
 (.cond (.t 84)
  (.seq (.reg [
    ⟨(some 2), none, .f (.mv (.c (.bool false)))⟩])
  .ret)
  .skip))
 (.seq (.seq (.reg [
   ⟨(some 85), none, .f (.mv (.t 13))⟩,
   ⟨(some 86), none, .f (.mv (.t 12))⟩,
   ⟨(some 87), none, .f (.bin .neq (.t 85) (.t 86))⟩])
 (.cond (.t 87)
  (.seq (.reg [
    ⟨(some 2), none, .f (.mv (.c (.bool false)))⟩])
  .ret)
  .skip))
 (.seq (.reg [
   ⟨(some 89), none, .f (.ldA 3 (.t 1))⟩,
   ⟨(some 90), none, .x (.call 26 [(.t 89)])⟩,
   ⟨(some 91), none, .x (.call 30 [(.t 90)])⟩,
   ⟨(some 88), none, .f (.mv (.t 91))⟩,
   ⟨(some 92), none, .f (.ext 0 (.t 88))⟩,
   ⟨(some 93), none, .f (.ext 1 (.t 88))⟩,
   ⟨(some 94), none, .f (.ext 2 (.t 88))⟩,
   ⟨(some 14), none, .x (.zero 40 3 [(.int .i64 0), (.int .i64 0), .nilslice])⟩,
   ⟨none, none, .x (.st 3 (.t 14) (.t 92))⟩,
   ⟨(some 15), none, .f (.mv (.t 93))⟩,
   ⟨(some 16), none, .f (.mv (.t 94))⟩])
 (.seq (.seq (.reg [
   ⟨(some 95), none, .f (.ldA 3 (.t 14))⟩,
   ⟨(some 96), none, .f (.ldA 3 (.t 4))⟩,
   ⟨(some 97), none, .x (.call 28 [(.t 95), (.t 96)])⟩,
   ⟨(some 98), none, .f (.un .not (.t 97))⟩,
   ⟨(some 99), none, .f (.mv (.t 98))⟩,
   ⟨(some 100), (some (99, false)), .f (.mv (.t 15))⟩,
   ⟨(some 101), (some (99, false)), .f (.mv (.t 5))⟩,
   ⟨(some 102), (some (99, false)), .f (.bin .neq (.t 100) (.t 101))⟩,
   ⟨(some 103), none, .f (.pick (.t 99) (.c (.bool true)) (.t 102))⟩,
   ⟨(some 104), none, .f (.mv (.t 103))⟩,
   ⟨(some 105), (some (104, false)), .f (.mv (.t 16))⟩,
   ⟨(some 106), (some (104, false)), .f (.mv (.t 6))⟩,
   ⟨(some 107), (some (104, false)), .f (.bin .neq (.t 105) (.t 106))⟩,
   ⟨(some 108), none, .f (.pick (.t 104) (.c (.bool true)) (.t 107))⟩])
 (.cond (.t 108)
  (.seq (.reg [
    ⟨(some 2), none, .f (.mv (.c (.bool false)))⟩])
  .ret)
  .skip))
 (.seq (.reg [
   ⟨(some 13), none, .f (.mv (.c (.int .i64 1)))⟩])
 (.seq (.reg [
   ⟨(some 109), none, .f (.ldA 3 (.t 8))⟩,
   ⟨(some 110), none, .f (.mv (.t 13))⟩,
   ⟨(some 111), none, .x (.call 32 [(.t 109), (.t 110)])⟩,
   ⟨(some 13), none, .f (.mv (.t 111))⟩])
 (.seq (.seq (.reg [
   ⟨(some 112), none, .f (.mv (.t 13))⟩,
   ⟨(some 113), none, .f (.bin .lss (.t 112) (.c (.int .i64 0)))⟩])
 (.cond (.t 113)
  (.seq (.reg [
    ⟨(some 2), none, .f (.mv (.c (.bool false)))⟩])
  .ret)
  .skip))
 (.seq (.seq (.reg [
   ⟨(some 114), none, .f (.mv (.t 13))⟩,
   ⟨(some 115), none, .f (.mv (.t 12))⟩,
   ⟨(some 116), none, .f (.bin .neq (.t 114) (.t 115))⟩])
 (.cond (.t 116)
  (.seq (.reg [
    ⟨(some 2), none, .f (.mv (.c (.bool false)))⟩])
  .ret)
  .skip))
 (.seq (.reg [
   ⟨(some 2), none, .f (.mv (.c (.bool true)))⟩])
 .ret)))))))))))))))))))))))))
theorem ok7 : fnComp Try.prog 7 = some (117, c7, [(.mv (.t 2))]) := by kernel_rfl

/-- loop.example/g00003/spec.BoardFirst -/
def c29 : CC :=
 (.seq (.reg [
   ⟨(some 1), none, .x (.box 40 3 (.t 0))⟩,
   ⟨(some 2), none, .x (.zero 40 3 [(.int .i64 0), (.int .i64 0), .nilslice])⟩,
   ⟨(some 3), none, .f (.mv (.c (.int .i64 0)))⟩,
   ⟨(some 4), none, .f (.mv (.c (.int .i64 0)))⟩])
 (.seq (.seq (.reg [
   ⟨(some 5), none, .f (.ldA 3 (.t 1))⟩,
   ⟨(some 6), none, .x (.call 67 [(.t 5)])⟩,
   ⟨(some 7), none, .f (.un .not (.t 6))⟩])
 (.cond (.t 7)
  (.seq (.reg [
    ⟨(some 8), none, .f (.build [(.int .i64 0), (.int .i64 0), .nilslice] [])⟩,
    ⟨none, none, .x (.st 3 (.t 2) (.t 8))⟩,
    ⟨(some 3), none, .f (.mv (.c (.int .i64 0)))⟩,
    ⟨(some 4), none, .f (.mv (.c (.int .i64 1)))⟩])
  .ret)
  .skip))
 (.seq (.reg [
   ⟨(some 9), none, .f (.ldA 3 (.t 1))⟩,
   ⟨(some 10), none, .x (.call 72 [(.t 9)])⟩,
   ⟨none, none, .x (.st 3 (.t 1) (.t 10))⟩])
 (.seq (.seq (.reg [
   ⟨(some 11), none, .f (.fadr 2 (.t 1))⟩,
   ⟨(some 12), none, .f (.ld (.t 11))⟩,
   ⟨(some 13), none, .f (.len (.t 12))⟩,
   ⟨(some 14), none, .f (.bin .eql (.t 13) (.c (.int .i64 0)))⟩,
   ⟨(some 15), none, .f (.mv (.t 14))⟩,
   ⟨(some 16), (some (15, false)), .f (.fadr 2 (.t 1))⟩,
   ⟨(some 17), (some (15, false)), .f (.ld (.t 16))⟩,
   ⟨(some 18), (some (15, false)), .f (.iadr 6 (.t 17) (.c (.int .i64 0)))⟩,
   ⟨(some 19), (some (15, false)), .f (.fadr 4 (.t 18))⟩,
   ⟨(some 20), (some (15, false)), .f (.ld (.t 19))⟩,
   ⟨(some 21), none, .f (.pick (.t 15) (.c (.bool true)) (.t 20))⟩,
   ⟨(some 22), none, .f (.mv (.t 21))⟩,
   ⟨(some 23), (some (22, false)), .f (.fadr 2 (.t 1))⟩,
   ⟨(some 24), (some (22, false)), .f (.ld (.t 23))⟩,
   ⟨(some 25), (some (22, false)), .f (.iadr 6 (.t 24) (.c (.int .i64 0)))⟩,
   ⟨(some 26), (some (22, false)), .f (.fadr 5 (.t 25))⟩,
   ⟨(some 27), (some (22, false)), .f (.ld (.t 26))⟩,
   ⟨(some 28), none, .f (.pick (.t 22) (.c (.bool true)) (.t 27))⟩])
 (.cond (.t 28)
  (.seq (.reg [
    ⟨(some 29), none, .f (.ldA 3 (.t 1))⟩,
    ⟨none, none, .x (.st 3 (.t 2) (.t 29))⟩,
    ⟨(some 3), none, .f (.mv (.c (.int .i64 0)))⟩,
    ⟨(some 4), none, .f (.mv (.c (.int .i64 0)))⟩])
  .ret)
  .skip))
 (.seq (.reg [
   ⟨(some 30), none, .f (.fadr 2 (.t 1))⟩,
   ⟨(some 31), none, .f (.ld (.t 30))⟩,
   ⟨(some 32), none, .f (.iadr 6 (.t 31) (.c (.int .i64 0)))⟩,
   ⟨(some 33), none, .f (.fadr 5 (.t 32))⟩,
   ⟨none, none, .x (.st 1 (.t 33) (.c (.bool true)))⟩])
 (.seq (.dreg [
   ⟨(some 34), none, .f (.ldA 3 (.t 1))⟩,
   ⟨(some 35), none, .f (.fadr 2 (.t 1))⟩,
   ⟨(some 36), none, .f (.ld (.t 35))⟩,
   ⟨(some 37), none, .f (.iadr 6 (.t 36) (.c (.int .i64 0)))⟩,
   ⟨(some 38), none, .f (.fadr 1 (.t 37))⟩,
   ⟨(some 39), none, .f (.ld (.t 38))⟩,
   ⟨(some 40), none, .f (.fadr 2 (.t 1))⟩,
   ⟨(some 41), none, .f (.ld (.t 40))⟩,
   ⟨(some 42), none, .f (.iadr 6 (.t 41) (.c (.int .i64 0)))⟩,
   ⟨(some 43), none, .f (.fadr 0 (.t 42))⟩,
   ⟨(some 44), none, .f (.ld (.t 43))⟩,
   ⟨(some 45), none, .f (.bin .sub (.t 39) (.t 44))⟩,
   ⟨none, none, .x (.st 3 (.t 2) (.t 34))⟩,
   ⟨(some 3), none, .f (.mv (.t 45))⟩,
   ⟨(some 4), none, .f (.mv (.c (.int .i64 0)))⟩]
   [false, false, false, false, false, false, false, false, false, false, false, false, true, false, false] [[], [], [1], [2, 1], [3, 2, 1], [4, 3, 2, 1], [], [6], [7, 6], [8, 7, 6], [9, 8, 7, 6], [5, 4, 3, 2, 1, 10, 9, 8, 7, 6], [0], [11, 5, 4, 3, 2, 1, 10, 9, 8, 7, 6, 12, 0], [13, 11, 5, 4, 3, 2, 1, 10, 9, 8, 7, 6, 12, 0]] [0, 1, 2, 3, 4, 5, 6, 7, 8, 9, 10, 11, 12, 13, 14])
 .ret))))))
theorem ok29 : fnComp Try.prog 29 = some (46, c29, [(.ldA 3 (.t 2)), (.mv (.t 3)), (.mv (.t 4))]) := by kernel_rfl

/-- loop.example/g00003/impl.BoardFirst -/
def c30 : CC :=
 (.seq (.reg [
   ⟨(some 1), none, .x (.box 40 3 (.t 0))⟩,
   ⟨(some 2), none, .x (.zero 40 3 [(.int .i64 0), (.int .i64 0), .nilslice])⟩,
   ⟨(some 3), none, .f (.mv (.c (.int .i64 0)))⟩,
   ⟨(some 4), none, .f (.mv (.c (.int .i64 0)))⟩])
 (.seq (.seq (.reg [
   ⟨(some 7), none, .f (.ldA 3 (.t 1))⟩,
   ⟨(some 8), none, .x (.call 69 [(.t 7)])⟩,
   ⟨(some 9), none, .f (.un .not (.t 8))⟩])
 (.cond (.t 9)
  (.seq (.reg [
    ⟨(some 10), none, .f (.build [(.int .i64 0), (.int .i64 0), .nilslice] [])⟩,
    ⟨none, none, .x (.st 3 (.t 2) (.t 10))⟩,
    ⟨(some 3), none, .f (.mv (.c (.int .i64 0)))⟩,
    ⟨(some 4), none, .f (.mv (.c (.int .i64 1)))⟩])
  .ret)
  .skip))
 (.seq (.reg [
   ⟨(some 11), none, .f (.ldA 3 (.t 1))⟩,
   ⟨(some 12), none, .x (.call 73 [(.t 11)])⟩,
   ⟨(some 13), none, .f (.build [(.int .i64 0), (.int .i64 0), .nilslice] [(0, 3, (.t 12))])⟩,
   ⟨(some 5), none, .x (.zero 116 3 [(.int .i64 0), (.int .i64 0), .nilslice])⟩,
   ⟨none, none, .x (.st 3 (.t 5) (.t 13))⟩])
 (.seq (.reg [
   ⟨(some 14), none, .x (.call 74 [(.t 5)])⟩,
   ⟨(some 6), none, .f (.mv (.t 14))⟩])
 (.seq (.reg [
   ⟨(some 15), none, .f (.fadr 0 (.t 5))⟩,
   ⟨(some 16), none, .f (.ldA 3 (.t 15))⟩,
   ⟨(some 17), none, .f (.mv (.t 6))⟩,
   ⟨none, none, .x (.st 3 (.t 2) (.t 16))⟩,
   ⟨(some 3), none, .f (.mv (.t 17))⟩,
   ⟨(some 4), none, .f (.mv (.c (.int .i64 0)))⟩])
 .ret)))))
theorem ok30 : fnComp Try.prog 30 = some (18, c30, [(.ldA 3 (.t 2)), (.mv (.t 3)), (.mv (.t 4))]) := by kernel_rfl

/-- loop.example/g00003/laws.markBoard -/
def c31 : CC :=
 (.seq (.reg [
   ⟨(some 2), none, .x (.box 40 3 (.t 0))⟩,
   ⟨(some 4), none, .f (.mv (.c (.int .i64 0)))⟩])
 (.seq (.reg [
   ⟨(some 5), none, .f (.fadr 2 (.t 2))⟩,
   ⟨(some 6), none, .f (.ld (.t 5))⟩,
   ⟨(some 7), none, .f (.mv (.t 1))⟩,
   ⟨(some 8), none, .x (.call 75 [(.t 6), (.t 7)])⟩,
   ⟨(some 1), none, .f (.mv (.t 8))⟩])
 (.seq (.reg [
   ⟨(some 9), none, .f (.mv (.t 1))⟩,
   ⟨(some 4), none, .f (.mv (.t 9))⟩])
 .ret)))
theorem ok31 : fnComp Try.prog 31 = some (10, c31, [(.mv (.t 4))]) := by kernel_rfl

/-- loop.example/g00003/laws.heldBoard -/
def c32 : CC :=
 (.seq (.reg [
   ⟨(some 2), none, .x (.box 40 3 (.t 0))⟩,
   ⟨(some 4), none, .f (.mv (.c (.int .i64 0)))⟩])
 (.seq (.reg [
   ⟨(some 5), none, .f (.fadr 2 (.t 2))⟩,
   ⟨(some 6), none, .f (.ld (.t 5))⟩,
   ⟨(some 7), none, .f (.mv (.t 1))⟩,
   ⟨(some 8), none, .x (.call 76 [(.t 6), (.t 7)])⟩,
   ⟨(some 1), none, .f (.mv (.t 8))⟩])
 (.seq (.seq (.reg [
   ⟨(some 9), none, .f (.mv (.t 1))⟩,
   ⟨(some 10), none, .f (.bin .lss (.t 9) (.c (.int .i64 0)))⟩])
 (.cond (.t 10)
  (.seq (.reg [
    ⟨(some 4), none, .f (.mv (.c (.int .i64 (-1))))⟩])
  .ret)
  .skip))
 (.seq (.reg [
   ⟨(some 11), none, .f (.mv (.t 1))⟩,
   ⟨(some 4), none, .f (.mv (.t 11))⟩])
 .ret))))
theorem ok32 : fnComp Try.prog 32 = some (12, c32, [(.mv (.t 4))]) := by kernel_rfl

/-- loop.example/g00003/spec.l15Copy -/
def c72 : CC :=
 (.seq (.reg [
   ⟨(some 1), none, .x (.box 40 3 (.t 0))⟩,
   ⟨(some 2), none, .x (.zero 40 3 [(.int .i64 0), (.int .i64 0), .nilslice])⟩])
 (.seq (.dreg [
   ⟨(some 3), none, .f (.fadr 0 (.t 1))⟩,
   ⟨(some 4), none, .f (.ld (.t 3))⟩,
   ⟨(some 5), none, .f (.fadr 1 (.t 1))⟩,
   ⟨(some 6), none, .f (.ld (.t 5))⟩,
   ⟨(some 7), none, .x (.bslice 113 6 [(.int .i64 0), (.int .i64 0), (.int .i64 0), (.int .i64 0), (.bool false), (.bool false)] 0 [])⟩,
   ⟨(some 8), none, .f (.fadr 2 (.t 1))⟩,
   ⟨(some 9), none, .f (.ld (.t 8))⟩,
   ⟨(some 10), none, .x (.app 113 6 40 (.t 7) (.t 9))⟩,
   ⟨(some 11), none, .f (.build [(.int .i64 0), (.int .i64 0), .nilslice] [(0, 1, (.t 4)), (1, 1, (.t 6)), (2, 1, (.t 10))])⟩,
   ⟨none, none, .x (.st 3 (.t 2) (.t 11))⟩]
   [false, false, false, false, true, false, false, true, false, true] [[], [0], [], [2], [], [], [5], [4, 6, 5], [1, 0, 3, 2, 7, 4, 6, 5], [8, 1, 0, 3, 2, 7, 4, 6, 5]] [0, 1, 2, 3, 5, 6, 4, 7, 8, 9])
 .ret))
theorem ok72 : fnComp Try.prog 72 = some (12, c72, [(.ldA 3 (.t 2))]) := by kernel_rfl


/-- (*loop.example/g00003/impl.board).first -/
def c74 : CC :=
 (.seq (.reg [
   ⟨(some 2), none, .f (.mv (.c (.int .i64 0)))⟩])
 (.seq (.seq (.reg [
   ⟨(some 3), none, .f (.mv (.t 0))⟩,
   ⟨(some 4), none, .f (.nck (.t 3))⟩,
   ⟨(some 5), none, .f (.fadr 0 (.t 4))⟩,
   ⟨(some 6), none, .f (.fadr 2 (.t 5))⟩,
   ⟨(some 7), none, .f (.ld (.t 6))⟩,
   ⟨(some 8), none, .f (.len (.t 7))⟩,
   ⟨(some 9), none, .f (.bin .eql (.t 8) (.c (.int .i64 0)))⟩,
   ⟨(some 10), none, .f (.mv (.t 9))⟩,
   ⟨(some 11), (some (10, false)), .f (.mv (.t 0))⟩,
   ⟨(some 12), (some (10, false)), .f (.nck (.t 11))⟩,
   ⟨(some 13), (some (10, false)), .f (.fadr 0 (.t 12))⟩,
   ⟨(some 14), (some (10, false)), .f (.fadr 2 (.t 13))⟩,
   ⟨(some 15), (some (10, false)), .f (.ld (.t 14))⟩,
   ⟨(some 16), (some (10, false)), .f (.iadr 6 (.t 15) (.c (.int .i64 0)))⟩,
   ⟨(some 17), (some (10, false)), .f (.fadr 4 (.t 16))⟩,
   ⟨(some 18), (some (10, false)), .f (.ld (.t 17))⟩,
   ⟨(some 19), none, .f (.pick (.t 10) (.c (.bool true)) (.t 18))⟩,
   ⟨(some 20), none, .f (.mv (.t 19))⟩,
   ⟨(some 21), (some (20, false)), .f (.mv (.t 0))⟩,
   ⟨(some 22), (some (20, false)), .f (.nck (.t 21))⟩,
   ⟨(some 23), (some (20, false)), .f (.fadr 0 (.t 22))⟩,
   ⟨(some 24), (some (20, false)), .f (.fadr 2 (.t 23))⟩,
   ⟨(some 25), (some (20, false)), .f (.ld (.t 24))⟩,
   ⟨(some 26), (some (20, false)), .f (.iadr 6 (.t 25) (.c (.int .i64 0)))⟩,
   ⟨(some 27), (some (20, false)), .f (.fadr 5 (.t 26))⟩,
   ⟨(some 28), (some (20, false)), .f (.ld (.t 27))⟩,
   ⟨(some 29), none, .f (.pick (.t 20) (.c (.bool true)) (.t 28))⟩])
 (.cond (.t 29)
  (.seq (.reg [
    ⟨(some 2), none, .f (.mv (.c (.int .i64 0)))⟩])
  .ret)
  .skip))
 (.seq (.reg [
   ⟨(some 30), none, .f (.mv (.t 0))⟩,
   ⟨(some 31), none, .f (.nck (.t 30))⟩,
   ⟨(some 32), none, .f (.fadr 0 (.t 31))⟩,
   ⟨(some 33), none, .f (.fadr 2 (.t 32))⟩,
   ⟨(some 34), none, .f (.ld (.t 33))⟩,
   ⟨(some 35), none, .f (.iadr 6 (.t 34) (.c (.int .i64 0)))⟩,
   ⟨(some 36), none, .f (.fadr 5 (.t 35))⟩,
   ⟨none, none, .x (.st 1 (.t 36) (.c (.bool true)))⟩])
 (.seq (.dreg [
   ⟨(some 37), none, .f (.mv (.t 0))⟩,
   ⟨(some 38), none, .f (.nck (.t 37))⟩,
   ⟨(some 39), none, .f (.fadr 0 (.t 38))⟩,
   ⟨(some 40), none, .f (.fadr 2 (.t 39))⟩,
   ⟨(some 41), none, .f (.ld (.t 40))⟩,
   ⟨(some 42), none, .f (.iadr 6 (.t 41) (.c (.int .i64 0)))⟩,
   ⟨(some 43), none, .f (.fadr 1 (.t 42))⟩,
   ⟨(some 44), none, .f (.ld (.t 43))⟩,
   ⟨(some 45), none, .f (.mv (.t 0))⟩,
   ⟨(some 46), none, .f (.nck (.t 45))⟩,
   ⟨(some 47), none, .f (.fadr 0 (.t 46))⟩,
   ⟨(some 48), none, .f (.fadr 2 (.t 47))⟩,
   ⟨(some 49), none, .f (.ld (.t 48))⟩,
   ⟨(some 50), none, .f (.iadr 6 (.t 49) (.c (.int .i64 0)))⟩,
   ⟨(some 51), none, .f (.fadr 0 (.t 50))⟩,
   ⟨(some 52), none, .f (.ld (.t 51))⟩,
   ⟨(some 53), none, .f (.bin .sub (.t 44) (.t 52))⟩,
   ⟨(some 2), none, .f (.mv (.t 53))⟩]
   [false, false, false, false, false, false, false, false, false, false, false, false, false, false, false, false, false, false] [[], [0], [1, 0], [2, 1, 0], [3, 2, 1, 0], [4, 3, 2, 1, 0], [5, 4, 3, 2, 1, 0], [6, 5, 4, 3, 2, 1, 0], [], [8], [9, 8], [10, 9, 8], [11, 10, 9, 8], [12, 11, 10, 9, 8], [13, 12, 11, 10, 9, 8], [14, 13, 12, 11, 10, 9, 8], [7, 6, 5, 4, 3, 2, 1, 0, 15, 14, 13, 12, 11, 10, 9, 8], [16, 7, 6, 5, 4, 3, 2, 1, 0, 15, 14, 13, 12, 11, 10, 9, 8]] [0, 1, 2, 3, 4, 5, 6, 7, 8, 9, 10, 11, 12, 13, 14, 15, 16, 17])
 .ret))))
theorem ok74 : fnComp Try.prog 74 = some (54, c74, [(.mv (.t 2))]) := by kernel_rfl

/-- loop.example/g00003/laws.markPieceS -/
def c75 : CC :=
 (.seq (.reg [
   ⟨(some 4), none, .f (.mv (.c (.int .i64 0)))⟩])
 (.seq (.seq (.reg [
   ⟨(some 5), none, .f (.mv (.c (.int .i64 0)))⟩])
 (.block 0 (.loop (.seq (.seq (.reg [
     ⟨(some 6), none, .f (.mv (.t 5))⟩,
     ⟨(some 7), none, .f (.mv (.t 0))⟩,
     ⟨(some 8), none, .f (.len (.t 7))⟩,
     ⟨(some 9), none, .f (.bin .lss (.t 6) (.t 8))⟩])
   (.cond (.t 9)
    .skip
    (.exit 0)))
   (.seq (.block 1 (.seq (.reg [
      ⟨(some 12), none, .f (.mv (.t 0))⟩,
      ⟨(some 13), none, .f (.mv (.t 5))⟩,
      ⟨(some 14), none, .f (.mv (.t 1))⟩,
      ⟨(some 15), none, .f (.iadr 6 (.t 12) (.t 13))⟩,
      ⟨(some 16), none, .f (.fadr 0 (.t 15))⟩,
      ⟨none, none, .x (.st 1 (.t 16) (.t 14))⟩])
    (.seq (.reg [
      ⟨(some 17), none, .f (.mv (.t 1))⟩,
      ⟨(some 18), none, .f (.bin .add (.t 17) (.c (.int .i64 1)))⟩,
      ⟨(some 1), none, .f (.mv (.t 18))⟩])
    (.seq (.reg [
      ⟨(some 19), none, .f (.mv (.t 0))⟩,
      ⟨(some 20), none, .f (.mv (.t 5))⟩,
      ⟨(some 21), none, .f (.mv (.t 1))⟩,
      ⟨(some 22), none, .f (.iadr 6 (.t 19) (.t 20))⟩,
      ⟨(some 23), none, .f (.fadr 1 (.t 22))⟩,
      ⟨none, none, .x (.st 1 (.t 23) (.t 21))⟩])
    (.seq (.reg [
      ⟨(some 24), none, .f (.mv (.t 1))⟩,
      ⟨(some 25), none, .f (.bin .add (.t 24) (.c (.int .i64 1)))⟩,
      ⟨(some 1), none, .f (.mv (.t 25))⟩])
    (.seq (.reg [
      ⟨(some 26), none, .f (.mv (.t 0))⟩,
      ⟨(some 27), none, .f (.mv (.t 5))⟩,
      ⟨(some 28), none, .f (.mv (.t 1))⟩,
      ⟨(some 29), none, .f (.iadr 6 (.t 26) (.t 27))⟩,
      ⟨(some 30), none, .f (.fadr 2 (.t 29))⟩,
      ⟨none, none, .x (.st 1 (.t 30) (.t 28))⟩])
    (.seq (.reg [
      ⟨(some 31), none, .f (.mv (.t 1))⟩,
      ⟨(some 32), none, .f (.bin .add (.t 31) (.c (.int .i64 1)))⟩,
      ⟨(some 1), none, .f (.mv (.t 32))⟩])
    (.seq (.reg [
      ⟨(some 33), none, .f (.mv (.t 0))⟩,
      ⟨(some 34), none, .f (.mv (.t 5))⟩,
      ⟨(some 35), none, .f (.mv (.t 1))⟩,
      ⟨(some 36), none, .f (.iadr 6 (.t 33) (.t 34))⟩,
      ⟨(some 37), none, .f (.fadr 3 (.t 36))⟩,
      ⟨none, none, .x (.st 1 (.t 37) (.t 35))⟩])
    (.seq (.reg [
      ⟨(some 38), none, .f (.mv (.t 1))⟩,
      ⟨(some 39), none, .f (.bin .add (.t 38) (.c (.int .i64 1)))⟩,
      ⟨(some 1), none, .f (.mv (.t 39))⟩])
    (.seq (.reg [
      ⟨(some 40), none, .f (.mv (.t 0))⟩,
      ⟨(some 41), none, .f (.mv (.t 5))⟩,
      ⟨(some 42), none, .f (.mv (.t 1))⟩,
      ⟨(some 43), none, .f (.bin .rem (.t 42) (.c (.int .i64 3)))⟩,
      ⟨(some 44), none, .f (.bin .eql (.t 43) (.c (.int .i64 0)))⟩,
      ⟨(some 45), none, .f (.iadr 6 (.t 40) (.t 41))⟩,
      ⟨(some 46), none, .f (.fadr 4 (.t 45))⟩,
      ⟨none, none, .x (.st 1 (.t 46) (.t 44))⟩])
    (.seq (.reg [
      ⟨(some 47), none, .f (.mv (.t 1))⟩,
      ⟨(some 48), none, .f (.bin .add (.t 47) (.c (.int .i64 1)))⟩,
      ⟨(some 1), none, .f (.mv (.t 48))⟩])
    (.seq (.reg [
      ⟨(some 49), none, .f (.mv (.t 0))⟩,
      ⟨(some 50), none, .f (.mv (.t 5))⟩,
      ⟨(some 51), none, .f (.mv (.t 1))⟩,
      ⟨(some 52), none, .f (.bin .rem (.t 51) (.c (.int .i64 3)))⟩,
      ⟨(some 53), none, .f (.bin .eql (.t 52) (.c (.int .i64 0)))⟩,
      ⟨(some 54), none, .f (.iadr 6 (.t 49) (.t 50))⟩,
      ⟨(some 55), none, .f (.fadr 5 (.t 54))⟩,
      ⟨none, none, .x (.st 1 (.t 55) (.t 53))⟩])
    (.reg [
      ⟨(some 56), none, .f (.mv (.t 1))⟩,
      ⟨(some 57), none, .f (.bin .add (.t 56) (.c (.int .i64 1)))⟩,
      ⟨(some 1), none, .f (.mv (.t 57))⟩])))))))))))))
   (.reg [
     ⟨(some 10), none, .f (.mv (.t 5))⟩,
     ⟨(some 11), none, .f (.bin .add (.t 10) (.c (.int .i64 1)))⟩,
     ⟨(some 5), none, .f (.mv (.t 11))⟩]))))))
 (.seq (.reg [
   ⟨(some 58), none, .f (.mv (.t 1))⟩,
   ⟨(some 4), none, .f (.mv (.t 58))⟩])
 .ret)))
theorem ok75 : fnComp Try.prog 75 = some (59, c75, [(.mv (.t 4))]) := by kernel_rfl

/-- loop.example/g00003/laws.heldPieceS -/
def c76 : CC :=
 (.seq (.reg [
   ⟨(some 4), none, .f (.mv (.c (.int .i64 0)))⟩])
 (.seq (.seq (.reg [
   ⟨(some 5), none, .f (.mv (.c (.int .i64 0)))⟩])
 (.block 0 (.loop (.seq (.seq (.reg [
     ⟨(some 6), none, .f (.mv (.t 5))⟩,
     ⟨(some 7), none, .f (.mv (.t 0))⟩,
     ⟨(some 8), none, .f (.len (.t 7))⟩,
     ⟨(some 9), none, .f (.bin .lss (.t 6) (.t 8))⟩])
   (.cond (.t 9)
    .skip
    (.exit 0)))
   (.seq (.block 1 (.seq (.seq (.reg [
      ⟨(some 12), none, .f (.mv (.t 0))⟩,
      ⟨(some 13), none, .f (.mv (.t 5))⟩,
      ⟨(some 14), none, .f (.iadr 6 (.t 12) (.t 13))⟩,
      ⟨(some 15), none, .f (.fadr 0 (.t 14))⟩,
      ⟨(some 16), none, .f (.ld (.t 15))⟩,
      ⟨(some 17), none, .f (.mv (.t 1))⟩,
      ⟨(some 18), none, .f (.bin .neq (.t 16) (.t 17))⟩])
    (.cond (.t 18)
     (.seq (.reg [
       ⟨(some 4), none, .f (.mv (.c (.int .i64 (-1))))⟩])
     .ret)
     .skip))
    (.seq (.reg [
      ⟨(some 19), none, .f (.mv (.t 1))⟩,
      ⟨(some 20), none, .f (.bin .add (.t 19) (.c (.int .i64 1)))⟩,
      ⟨(some 1), none, .f (.mv (.t 20))⟩])
    (.seq (.seq (.reg [
      ⟨(some 21), none, .f (.mv (.t 0))⟩,
      ⟨(some 22), none, .f (.mv (.t 5))⟩,
      ⟨(some 23), none, .f (.iadr 6 (.t 21) (.t 22))⟩,
      ⟨(some 24), none, .f (.fadr 1 (.t 23))⟩,
      ⟨(some 25), none, .f (.ld (.t 24))⟩,
      ⟨(some 26), none, .f (.mv (.t 1))⟩,
      ⟨(some 27), none, .f (.bin .neq (.t 25) (.t 26))⟩])
    (.cond (.t 27)
     (.seq (.reg [
       ⟨(some 4), none, .f (.mv (.c (.int .i64 (-1))))⟩])
     .ret)
     .skip))
    (.seq (.reg [
      ⟨(some 28), none, .f (.mv (.t 1))⟩,
      ⟨(some 29), none, .f (.bin .add (.t 28) (.c (.int .i64 1)))⟩,
      ⟨(some 1), none, .f (.mv (.t 29))⟩])
    (.seq (.seq (.reg [
      ⟨(some 30), none, .f (.mv (.t 0))⟩,
      ⟨(some 31), none, .f (.mv (.t 5))⟩,
      ⟨(some 32), none, .f (.iadr 6 (.t 30) (.t 31))⟩,
      ⟨(some 33), none, .f (.fadr 2 (.t 32))⟩,
      ⟨(some 34), none, .f (.ld (.t 33))⟩,
      ⟨(some 35), none, .f (.mv (.t 1))⟩,
      ⟨(some 36), none, .f (.bin .neq (.t 34) (.t 35))⟩])
    (.cond (.t 36)
     (.seq (.reg [
       ⟨(some 4), none, .f (.mv (.c (.int .i64 (-1))))⟩])
     .ret)
     .skip))
    (.seq (.reg [
      ⟨(some 37), none, .f (.mv (.t 1))⟩,
      ⟨(some 38), none, .f (.bin .add (.t 37) (.c (.int .i64 1)))⟩,
      ⟨(some 1), none, .f (.mv (.t 38))⟩])
    (.seq (.seq (.reg [
      ⟨(some 39), none, .f (.mv (.t 0))⟩,
      ⟨(some 40), none, .f (.mv (.t 5))⟩,
      ⟨(some 41), none, .f (.iadr 6 (.t 39) (.t 40))⟩,
      ⟨(some 42), none, .f (.fadr 3 (.t 41))⟩,
      ⟨(some 43), none, .f (.ld (.t 42))⟩,
      ⟨(some 44), none, .f (.mv (.t 1))⟩,
      ⟨(some 45), none, .f (.bin .neq (.t 43) (.t 44))⟩])
    (.cond (.t 45)
     (.seq (.reg [
       ⟨(some 4), none, .f (.mv (.c (.int .i64 (-1))))⟩])
     .ret)
     .skip))
    (.seq (.reg [
      ⟨(some 46), none, .f (.mv (.t 1))⟩,
      ⟨(some 47), none, .f (.bin .add (.t 46) (.c (.int .i64 1)))⟩,
      ⟨(some 1), none, .f (.mv (.t 47))⟩])
    (.seq (.seq (.reg [
      ⟨(some 48), none, .f (.mv (.t 0))⟩,
      ⟨(some 49), none, .f (.mv (.t 5))⟩,
      ⟨(some 50), none, .f (.iadr 6 (.t 48) (.t 49))⟩,
      ⟨(some 51), none, .f (.fadr 4 (.t 50))⟩,
      ⟨(some 52), none, .f (.ld (.t 51))⟩,
      ⟨(some 53), none, .f (.mv (.t 1))⟩,
      ⟨(some 54), none, .f (.bin .rem (.t 53) (.c (.int .i64 3)))⟩,
      ⟨(some 55), none, .f (.bin .eql (.t 54) (.c (.int .i64 0)))⟩,
      ⟨(some 56), none, .f (.binB true (.t 52) (.t 55))⟩])
    (.cond (.t 56)
     (.seq (.reg [
       ⟨(some 4), none, .f (.mv (.c (.int .i64 (-1))))⟩])
     .ret)
     .skip))
    (.seq (.reg [
      ⟨(some 57), none, .f (.mv (.t 1))⟩,
      ⟨(some 58), none, .f (.bin .add (.t 57) (.c (.int .i64 1)))⟩,
      ⟨(some 1), none, .f (.mv (.t 58))⟩])
    (.seq (.seq (.reg [
      ⟨(some 59), none, .f (.mv (.t 0))⟩,
      ⟨(some 60), none, .f (.mv (.t 5))⟩,
      ⟨(some 61), none, .f (.iadr 6 (.t 59) (.t 60))⟩,
      ⟨(some 62), none, .f (.fadr 5 (.t 61))⟩,
      ⟨(some 63), none, .f (.ld (.t 62))⟩,
      ⟨(some 64), none, .f (.mv (.t 1))⟩,
      ⟨(some 65), none, .f (.bin .rem (.t 64) (.c (.int .i64 3)))⟩,
      ⟨(some 66), none, .f (.bin .eql (.t 65) (.c (.int .i64 0)))⟩,
      ⟨(some 67), none, .f (.binB true (.t 63) (.t 66))⟩])
    (.cond (.t 67)
     (.seq (.reg [
       ⟨(some 4), none, .f (.mv (.c (.int .i64 (-1))))⟩])
     .ret)
     .skip))
    (.reg [
      ⟨(some 68), none, .f (.mv (.t 1))⟩,
      ⟨(some 69), none, .f (.bin .add (.t 68) (.c (.int .i64 1)))⟩,
      ⟨(some 1), none, .f (.mv (.t 69))⟩])))))))))))))
   (.reg [
     ⟨(some 10), none, .f (.mv (.t 5))⟩,
     ⟨(some 11), none, .f (.bin .add (.t 10) (.c (.int .i64 1)))⟩,
     ⟨(some 5), none, .f (.mv (.t 11))⟩]))))))
 (.seq (.reg [
   ⟨(some 70), none, .f (.mv (.t 1))⟩,
   ⟨(some 4), none, .f (.mv (.t 70))⟩])
 .ret)))
theorem ok76 : fnComp Try.prog 76 = some (71, c76, [(.mv (.t 4))]) := by kernel_rfl

/-- slices.Clone[[]loop.example/g00003/impl.Piece,loop.example/g00003/impl.Piece] -/
def c98 : CC :=
 (.seq (.reg [
   ⟨(some 2), none, .f (.mv (.c .nilslice))⟩])
 (.seq (.seq (.reg [
   ⟨(some 3), none, .f (.mv (.t 0))⟩,
   ⟨(some 4), none, .f (.eqn .slice false (.t 3) (.c .nilslice))⟩])
 (.cond (.t 4)
  (.seq (.reg [
    ⟨(some 2), none, .f (.mv (.c .nilslice))⟩])
  .ret)
  .skip))
 (.seq (.reg [
   ⟨(some 5), none, .x (.bslice 113 6 [(.int .i64 0), (.int .i64 0), (.int .i64 0), (.int .i64 0), (.bool false), (.bool false)] 0 [])⟩,
   ⟨(some 6), none, .f (.mv (.t 0))⟩,
   ⟨(some 7), none, .x (.app 113 6 40 (.t 5) (.t 6))⟩,
   ⟨(some 2), none, .f (.mv (.t 7))⟩])
 .ret)))
theorem ok98 : fnComp Try.prog 98 = some (8, c98, [(.mv (.t 2))]) := by kernel_rfl

end Go.Proofs.Ytecljenjlncfhaa

namespace Go.Proofs.Ytecljenjlncfhaa
open Go Go.IW
/-- loop.example/g00003/laws.FnExactBoardPipe -/
def c6 : CC :=
 (.seq (.reg [
   ⟨(some 1), none, .x (.box 35 3 (.t 0))⟩,
   ⟨(some 2), none, .f (.mv (.c (.bool false)))⟩])
 (.seq (.reg [
   ⟨(some 3), none, .f (.mv (.c (.int .i64 1048576)))⟩])
 (.seq (.reg [
   ⟨(some 7), none, .f (.ldA 3 (.t 1))⟩,
   ⟨(some 8), none, .f (.mv (.t 3))⟩,
   ⟨(some 9), none, .x (.call 24 [(.t 7), (.t 8)])⟩,
   ⟨(some 3), none, .f (.mv (.t 9))⟩])
 (.seq (.seq (.reg [
   ⟨(some 10), none, .f (.mv (.t 3))⟩,
   ⟨(some 11), none, .f (.bin .lss (.t 10) (.c (.int .i64 0)))⟩])
 (.cond (.t 11)
  (.seq (.reg [
    ⟨(some 2), none, .f (.mv (.c (.bool true)))⟩])
  .ret)
  .skip))
 (.seq (.reg [
   ⟨(some 12), none, .f (.ldA 3 (.t 1))⟩,
   ⟨(some 13), none, .x (.call 26 [(.t 12)])⟩,
   ⟨(some 14), none, .x (.call 25 [(.t 13)])⟩,
   ⟨(some 4), none, .f (.mv (.t 14))⟩])
 (.seq (.reg [
   ⟨(some 15), none, .f (.ldA 3 (.t 1))⟩,
   ⟨(some 16), none, .x (.call 26 [(.t 15)])⟩,
   ⟨(some 5), none, .x (.zero 40 3 [(.int .i64 0), (.int .i64 0), .nilslice])⟩,
   ⟨none, none, .x (.st 3 (.t 5) (.t 16))⟩])
 (.seq (.reg [
   ⟨(some 17), none, .f (.ldA 3 (.t 5))⟩,
   ⟨(some 18), none, .x (.call 27 [(.t 17)])⟩,
   ⟨(some 6), none, .f (.mv (.t 18))⟩])
 (.seq (.seq (.reg [
   ⟨(some 19), none, .f (.mv (.t 6))⟩,
   ⟨(some 20), none, .f (.mv (.t 4))⟩,
   ⟨(some 21), none, .f (.bin .neq (.t 19) (.t 20))⟩])
 (.cond (.t 21)
  (.seq (.reg [
    ⟨(some 2), none, .f (.mv (.c (.bool false)))⟩])
  .ret)
  .skip))
 (.seq (.seq (.dreg [
   ⟨(some 22), none, .f (.ldA 3 (.t 5))⟩,
   ⟨(some 23), none, .f (.ldA 3 (.t 1))⟩,
   ⟨(some 24), none, .x (.call 26 [(.t 23)])⟩,
   ⟨(some 25), none, .x (.call 28 [(.t 22), (.t 24)])⟩,
   ⟨(some 26), none, .f (.un .not (.t 25))⟩]
   [false, false, true, true, false] [[], [], [1], [0, 2, 1], [3, 0, 2, 1]] [0, 1, 2, 3, 4])
 (.cond (.t 26)
  (.seq (.reg [
    ⟨(some 2), none, .f (.mv (.c (.bool false)))⟩])
  .ret)
  .skip))
 (.seq (.reg [
   ⟨(some 2), none, .f (.mv (.c (.bool true)))⟩])
 .ret))))))))))
theorem ok6 : fnComp Try.prog 6 = some (27, c6, [(.mv (.t 2))]) := by kernel_rfl

/-- loop.example/g00003/spec.BoardPipe -/
def c25 : CC :=
 (.seq (.reg [
   ⟨(some 1), none, .x (.box 40 3 (.t 0))⟩,
   ⟨(some 2), none, .f (.mv (.c (.int .i64 0)))⟩])
 (.seq (.seq (.reg [
   ⟨(some 5), none, .f (.ldA 3 (.t 1))⟩,
   ⟨(some 6), none, .x (.call 67 [(.t 5)])⟩,
   ⟨(some 7), none, .f (.un .not (.t 6))⟩])
 (.cond (.t 7)
  (.seq (.reg [
    ⟨(some 2), none, .f (.mv (.c (.int .i64 (-1))))⟩])
  .ret)
  .skip))
 (.seq (.reg [
   ⟨(some 3), none, .f (.mv (.c (.int .i64 0)))⟩])
 (.seq (.seq (.reg [
   ⟨(some 4), none, .f (.mv (.c (.int .i64 0)))⟩])
 (.block 0 (.loop (.seq (.seq (.reg [
     ⟨(some 8), none, .f (.mv (.t 4))⟩,
     ⟨(some 9), none, .f (.fadr 2 (.t 1))⟩,
     ⟨(some 10), none, .f (.ld (.t 9))⟩,
     ⟨(some 11), none, .f (.len (.t 10))⟩,
     ⟨(some 12), none, .f (.bin .lss (.t 8) (.t 11))⟩])
   (.cond (.t 12)
    .skip
    (.exit 0)))
   (.seq (.block 1 (.seq (.reg [
      ⟨(some 15), none, .f (.fadr 2 (.t 1))⟩,
      ⟨(some 16), none, .f (.ld (.t 15))⟩,
      ⟨(some 17), none, .f (.mv (.t 4))⟩,
      ⟨(some 18), none, .f (.iadr 6 (.t 16) (.t 17))⟩,
      ⟨(some 19), none, .f (.fadr 4 (.t 18))⟩,
      ⟨(some 20), none, .f (.ld (.t 19))⟩,
      ⟨(some 21), none, .f (.un .not (.t 20))⟩,
      ⟨(some 22), none, .f (.mv (.t 21))⟩,
      ⟨(some 23), (some (22, true)), .f (.fadr 2 (.t 1))⟩,
      ⟨(some 24), (some (22, true)), .f (.ld (.t 23))⟩,
      ⟨(some 25), (some (22, true)), .f (.mv (.t 4))⟩,
      ⟨(some 26), (some (22, true)), .f (.iadr 6 (.t 24) (.t 25))⟩,
      ⟨(some 27), (some (22, true)), .f (.fadr 5 (.t 26))⟩,
      ⟨(some 28), (some (22, true)), .f (.ld (.t 27))⟩,
      ⟨(some 29), (some (22, true)), .f (.un .not (.t 28))⟩,
      ⟨(some 30), none, .f (.pick (.t 22) (.t 29) (.c (.bool false)))⟩])
    (.cond (.t 30)
     (.dreg [
       ⟨(some 31), none, .f (.mv (.t 3))⟩,
       ⟨(some 32), none, .f (.fadr 2 (.t 1))⟩,
       ⟨(some 33), none, .f (.ld (.t 32))⟩,
       ⟨(some 34), none, .f (.mv (.t 4))⟩,
       ⟨(some 35), none, .f (.iadr 6 (.t 33) (.t 34))⟩,
       ⟨(some 36), none, .f (.fadr 1 (.t 35))⟩,
       ⟨(some 37), none, .f (.ld (.t 36))⟩,
       ⟨(some 38), none, .f (.bin .add (.t 31) (.t 37))⟩,
       ⟨(some 39), none, .f (.fadr 2 (.t 1))⟩,
       ⟨(some 40), none, .f (.ld (.t 39))⟩,
       ⟨(some 41), none, .f (.mv (.t 4))⟩,
       ⟨(some 42), none, .f (.iadr 6 (.t 40) (.t 41))⟩,
       ⟨(some 43), none, .f (.fadr 0 (.t 42))⟩,
       ⟨(some 44), none, .f (.ld (.t 43))⟩,
       ⟨(some 45), none, .f (.bin .sub (.t 38) (.t 44))⟩,
       ⟨(some 3), none, .f (.mv (.t 45))⟩]
       [false, false, false, false, false, false, false, false, false, false, false, false, false, false, false, true] [[], [], [1], [], [2, 1, 3], [4, 2, 1, 3], [5, 4, 2, 1, 3], [0, 6, 5, 4, 2, 1, 3], [], [8], [], [9, 8, 10], [11, 9, 8, 10], [12, 11, 9, 8, 10], [7, 0, 6, 5, 4, 2, 1, 3, 13, 12, 11, 9, 8, 10], [14, 7, 0, 6, 5, 4, 2, 1, 3, 13, 12, 11, 9, 8, 10]] [0, 1, 2, 3, 4, 5, 6, 7, 8, 9, 10, 11, 12, 13, 14, 15])
     .skip)))
   (.reg [
     ⟨(some 13), none, .f (.mv (.t 4))⟩,
     ⟨(some 14), none, .f (.bin .add (.t 13) (.c (.int .i64 1)))⟩,
     ⟨(some 4), none, .f (.mv (.t 14))⟩]))))))
 (.seq (.reg [
   ⟨(some 46), none, .f (.mv (.t 3))⟩,
   ⟨(some 2), none, .f (.mv (.t 46))⟩])
 .ret)))))
theorem ok25 : fnComp Try.prog 25 = some (47, c25, [(.mv (.t 2))]) := by kernel_rfl

/-- loop.example/g00003/impl.BoardPipe -/
def c27 : CC :=
 (.seq (.reg [
   ⟨(some 1), none, .x (.box 40 3 (.t 0))⟩,
   ⟨(some 2), none, .f (.mv (.c (.int .i64 0)))⟩])
 (.seq (.seq (.reg [
   ⟨(some 4), none, .f (.ldA 3 (.t 1))⟩,
   ⟨(some 5), none, .x (.call 69 [(.t 4)])⟩,
   ⟨(some 6), none, .f (.un .not (.t 5))⟩])
 (.cond (.t 6)
  (.seq (.reg [
    ⟨(some 2), none, .f (.mv (.c (.int .i64 (-1))))⟩])
  .ret)
  .skip))
 (.seq (.reg [
   ⟨(some 7), none, .f (.ldA 3 (.t 1))⟩,
   ⟨(some 8), none, .f (.build [(.int .i64 0), (.int .i64 0), .nilslice] [(0, 3, (.t 7))])⟩,
   ⟨(some 3), none, .x (.zero 116 3 [(.int .i64 0), (.int .i64 0), .nilslice])⟩,
   ⟨none, none, .x (.st 3 (.t 3) (.t 8))⟩])
 (.seq (.reg [
   ⟨(some 9), none, .x (.call 70 [(.t 3)])⟩,
   ⟨(some 2), none, .f (.mv (.t 9))⟩])
 .ret))))
theorem ok27 : fnComp Try.prog 27 = some (10, c27, [(.mv (.t 2))]) := by kernel_rfl

/-- (*loop.example/g00003/impl.board).pipe -/
def c70 : CC :=
 (.seq (.reg [
   ⟨(some 2), none, .f (.mv (.c (.int .i64 0)))⟩])
 (.seq (.reg [
   ⟨(some 3), none, .f (.mv (.c (.int .i64 0)))⟩])
 (.seq (.seq (.reg [
   ⟨(some 6), none, .f (.mv (.t 0))⟩,
   ⟨(some 7), none, .f (.nck (.t 6))⟩,
   ⟨(some 8), none, .f (.fadr 0 (.t 7))⟩,
   ⟨(some 9), none, .f (.fadr 2 (.t 8))⟩,
   ⟨(some 10), none, .f (.ld (.t 9))⟩,
   ⟨(some 11), none, .f (.len (.t 10))⟩,
   ⟨(some 12), none, .f (.mv (.c (.int .i64 0)))⟩])
 (.block 0 (.loop (.seq (.reg [
     ⟨(some 13), none, .f (.bin .lss (.t 12) (.t 11))⟩])
   (.seq (.cond (.t 13)
    .skip
    (.exit 0))
   (.seq (.block 1 (.seq (.reg [
      ⟨(some 14), none, .f (.iadr 6 (.t 10) (.t 12))⟩,
      ⟨(some 15), none, .f (.ldA 6 (.t 14))⟩,
      ⟨(some 5), none, .x (.zero 113 6 [(.int .i64 0), (.int .i64 0), (.int .i64 0), (.int .i64 0), (.bool false), (.bool false)])⟩,
      ⟨none, none, .x (.st 6 (.t 5) (.t 15))⟩])
    (.seq (.reg [
      ⟨(some 16), none, .f (.fadr 4 (.t 5))⟩,
      ⟨(some 17), none, .f (.ld (.t 16))⟩,
      ⟨(some 18), none, .f (.un .not (.t 17))⟩,
      ⟨(some 19), none, .f (.mv (.t 18))⟩,
      ⟨(some 20), (some (19, true)), .f (.fadr 5 (.t 5))⟩,
      ⟨(some 21), (some (19, true)), .f (.ld (.t 20))⟩,
      ⟨(some 22), (some (19, true)), .f (.un .not (.t 21))⟩,
      ⟨(some 23), none, .f (.pick (.t 19) (.t 22) (.c (.bool false)))⟩])
    (.cond (.t 23)
     (.reg [
       ⟨(some 24), none, .f (.mv (.t 3))⟩,
       ⟨(some 25), none, .f (.fadr 1 (.t 5))⟩,
       ⟨(some 26), none, .f (.ld (.t 25))⟩,
       ⟨(some 27), none, .f (.fadr 0 (.t 5))⟩,
       ⟨(some 28), none, .f (.ld (.t 27))⟩,
       ⟨(some 29), none, .f (.bin .sub (.t 26) (.t 28))⟩,
       ⟨(some 30), none, .f (.bin .add (.t 24) (.t 29))⟩,
       ⟨(some 3), none, .f (.mv (.t 30))⟩])
     .skip))))
   (.reg [
     ⟨(some 31), none, .f (.bin .add (.t 12) (.c (.int .i64 1)))⟩,
     ⟨(some 12), none, .f (.mv (.t 31))⟩])))))))
 (.seq (.reg [
   ⟨(some 32), none, .f (.mv (.t 3))⟩,
   ⟨(some 2), none, .f (.mv (.t 32))⟩])
 .ret))))
theorem ok70 : fnComp Try.prog 70 = some (33, c70, [(.mv (.t 2))]) := by kernel_rfl

/-- loop.example/g00003/spec.l15OK -/
def c67 : CC :=
 (.seq (.reg [
   ⟨(some 1), none, .x (.box 40 3 (.t 0))⟩,
   ⟨(some 2), none, .f (.mv (.c (.bool false)))⟩])
 (.seq (.seq (.reg [
   ⟨(some 6), none, .f (.fadr 0 (.t 1))⟩,
   ⟨(some 7), none, .f (.ld (.t 6))⟩,
   ⟨(some 8), none, .f (.bin .lss (.t 7) (.c (.int .i64 0)))⟩,
   ⟨(some 9), none, .f (.mv (.t 8))⟩,
   ⟨(some 10), (some (9, false)), .f (.fadr 0 (.t 1))⟩,
   ⟨(some 11), (some (9, false)), .f (.ld (.t 10))⟩,
   ⟨(some 12), (some (9, false)), .f (.fadr 1 (.t 1))⟩,
   ⟨(some 13), (some (9, false)), .f (.ld (.t 12))⟩,
   ⟨(some 14), (some (9, false)), .f (.bin .gtr (.t 11) (.t 13))⟩,
   ⟨(some 15), none, .f (.pick (.t 9) (.c (.bool true)) (.t 14))⟩,
   ⟨(some 16), none, .f (.mv (.t 15))⟩,
   ⟨(some 17), (some (16, false)), .f (.fadr 1 (.t 1))⟩,
   ⟨(some 18), (some (16, false)), .f (.ld (.t 17))⟩,
   ⟨(some 19), (some (16, false)), .f (.bin .gtr (.t 18) (.c (.int .i64 1099511627776)))⟩,
   ⟨(some 20), none, .f (.pick (.t 16) (.c (.bool true)) (.t 19))⟩,
   ⟨(some 21), none, .f (.mv (.t 20))⟩,
   ⟨(some 22), (some (21, false)), .f (.fadr 2 (.t 1))⟩,
   ⟨(some 23), (some (21, false)), .f (.ld (.t 22))⟩,
   ⟨(some 24), (some (21, false)), .f (.len (.t 23))⟩,
   ⟨(some 25), (some (21, false)), .f (.bin .gtr (.t 24) (.c (.int .i64 4096)))⟩,
   ⟨(some 26), none, .f (.pick (.t 21) (.c (.bool true)) (.t 25))⟩])
 (.cond (.t 26)
  (.seq (.reg [
    ⟨(some 2), none, .f (.mv (.c (.bool false)))⟩])
  .ret)
  .skip))
 (.seq (.reg [
   ⟨(some 27), none, .f (.fadr 0 (.t 1))⟩,
   ⟨(some 28), none, .f (.ld (.t 27))⟩,
   ⟨(some 3), none, .f (.mv (.t 28))⟩])
 (.seq (.seq (.reg [
   ⟨(some 4), none, .f (.mv (.c (.int .i64 0)))⟩])
 (.block 0 (.loop (.seq (.seq (.reg [
     ⟨(some 29), none, .f (.mv (.t 4))⟩,
     ⟨(some 30), none, .f (.fadr 2 (.t 1))⟩,
     ⟨(some 31), none, .f (.ld (.t 30))⟩,
     ⟨(some 32), none, .f (.len (.t 31))⟩,
     ⟨(some 33), none, .f (.bin .lss (.t 29) (.t 32))⟩])
   (.cond (.t 33)
    .skip
    (.exit 0)))
   (.seq (.block 1 (.seq (.reg [
      ⟨(some 36), none, .f (.fadr 2 (.t 1))⟩,
      ⟨(some 37), none, .f (.ld (.t 36))⟩,
      ⟨(some 38), none, .f (.mv (.t 4))⟩,
      ⟨(some 39), none, .f (.iadr 6 (.t 37) (.t 38))⟩,
      ⟨(some 40), none, .f (.ldA 6 (.t 39))⟩,
      ⟨(some 5), none, .x (.zero 113 6 [(.int .i64 0), (.int .i64 0), (.int .i64 0), (.int .i64 0), (.bool false), (.bool false)])⟩,
      ⟨none, none, .x (.st 6 (.t 5) (.t 40))⟩])
    (.seq (.seq (.reg [
      ⟨(some 41), none, .f (.fadr 0 (.t 5))⟩,
      ⟨(some 42), none, .f (.ld (.t 41))⟩,
      ⟨(some 43), none, .f (.mv (.t 3))⟩,
      ⟨(some 44), none, .f (.bin .neq (.t 42) (.t 43))⟩,
      ⟨(some 45), none, .f (.mv (.t 44))⟩,
      ⟨(some 46), (some (45, false)), .f (.fadr 1 (.t 5))⟩,
      ⟨(some 47), (some (45, false)), .f (.ld (.t 46))⟩,
      ⟨(some 48), (some (45, false)), .f (.fadr 0 (.t 5))⟩,
      ⟨(some 49), (some (45, false)), .f (.ld (.t 48))⟩,
      ⟨(some 50), (some (45, false)), .f (.bin .leq (.t 47) (.t 49))⟩,
      ⟨(some 51), none, .f (.pick (.t 45) (.c (.bool true)) (.t 50))⟩,
      ⟨(some 52), none, .f (.mv (.t 51))⟩,
      ⟨(some 53), (some (52, false)), .f (.fadr 2 (.t 5))⟩,
      ⟨(some 54), (some (52, false)), .f (.ld (.t 53))⟩,
      ⟨(some 55), (some (52, false)), .x (.call 77 [(.t 54), (.c (.int .i64 0)), (.c (.int .i64 1000000000))])⟩,
      ⟨(some 56), (some (52, false)), .f (.un .not (.t 55))⟩,
      ⟨(some 57), none, .f (.pick (.t 52) (.c (.bool true)) (.t 56))⟩,
      ⟨(some 58), none, .f (.mv (.t 57))⟩,
      ⟨(some 59), (some (58, false)), .f (.fadr 3 (.t 5))⟩,
      ⟨(some 60), (some (58, false)), .f (.ld (.t 59))⟩,
      ⟨(some 61), (some (58, false)), .x (.call 77 [(.t 60), (.c (.int .i64 1)), (.c (.int .i64 1000000))])⟩,
      ⟨(some 62), (some (58, false)), .f (.un .not (.t 61))⟩,
      ⟨(some 63), none, .f (.pick (.t 58) (.c (.bool true)) (.t 62))⟩,
      ⟨(some 64), none, .f (.mv (.t 63))⟩,
      ⟨(some 65), (some (64, false)), .f (.fadr 4 (.t 5))⟩,
      ⟨(some 66), (some (64, false)), .f (.ld (.t 65))⟩,
      ⟨(some 67), (some (64, false)), .f (.mv (.t 66))⟩,
      ⟨(some 68), (some (67, true)), .f (.fadr 5 (.t 5))⟩,
      ⟨(some 69), (some (67, true)), .f (.ld (.t 68))⟩,
      ⟨(some 70), (some (64, false)), .f (.pick (.t 67) (.t 69) (.c (.bool false)))⟩,
      ⟨(some 71), none, .f (.pick (.t 64) (.c (.bool true)) (.t 70))⟩])
    (.cond (.t 71)
     (.seq (.reg [
       ⟨(some 2), none, .f (.mv (.c (.bool false)))⟩])
     .ret)
     .skip))
    (.reg [
      ⟨(some 72), none, .f (.fadr 1 (.t 5))⟩,
      ⟨(some 73), none, .f (.ld (.t 72))⟩,
      ⟨(some 3), none, .f (.mv (.t 73))⟩]))))
   (.reg [
     ⟨(some 34), none, .f (.mv (.t 4))⟩,
     ⟨(some 35), none, .f (.bin .add (.t 34) (.c (.int .i64 1)))⟩,
     ⟨(some 4), none, .f (.mv (.t 35))⟩]))))))
 (.seq (.reg [
   ⟨(some 74), none, .f (.mv (.t 3))⟩,
   ⟨(some 75), none, .f (.fadr 1 (.t 1))⟩,
   ⟨(some 76), none, .f (.ld (.t 75))⟩,
   ⟨(some 77), none, .f (.bin .eql (.t 74) (.t 76))⟩,
   ⟨(some 2), none, .f (.mv (.t 77))⟩])
 .ret)))))
theorem ok67 : fnComp Try.prog 67 = some (78, c67, [(.mv (.t 2))]) := by kernel_rfl

/-- loop.example/g00003/impl.okBoard -/
def c69 : CC :=
 (.seq (.reg [
   ⟨(some 1), none, .x (.box 40 3 (.t 0))⟩,
   ⟨(some 2), none, .f (.mv (.c (.bool false)))⟩])
 (.seq (.seq (.reg [
   ⟨(some 6), none, .f (.fadr 0 (.t 1))⟩,
   ⟨(some 7), none, .f (.ld (.t 6))⟩,
   ⟨(some 8), none, .f (.bin .lss (.t 7) (.c (.int .i64 0)))⟩,
   ⟨(some 9), none, .f (.mv (.t 8))⟩,
   ⟨(some 10), (some (9, false)), .f (.fadr 0 (.t 1))⟩,
   ⟨(some 11), (some (9, false)), .f (.ld (.t 10))⟩,
   ⟨(some 12), (some (9, false)), .f (.fadr 1 (.t 1))⟩,
   ⟨(some 13), (some (9, false)), .f (.ld (.t 12))⟩,
   ⟨(some 14), (some (9, false)), .f (.bin .gtr (.t 11) (.t 13))⟩,
   ⟨(some 15), none, .f (.pick (.t 9) (.c (.bool true)) (.t 14))⟩,
   ⟨(some 16), none, .f (.mv (.t 15))⟩,
   ⟨(some 17), (some (16, false)), .f (.fadr 1 (.t 1))⟩,
   ⟨(some 18), (some (16, false)), .f (.ld (.t 17))⟩,
   ⟨(some 19), (some (16, false)), .f (.bin .gtr (.t 18) (.c (.int .i64 1099511627776)))⟩,
   ⟨(some 20), none, .f (.pick (.t 16) (.c (.bool true)) (.t 19))⟩,
   ⟨(some 21), none, .f (.mv (.t 20))⟩,
   ⟨(some 22), (some (21, false)), .f (.fadr 2 (.t 1))⟩,
   ⟨(some 23), (some (21, false)), .f (.ld (.t 22))⟩,
   ⟨(some 24), (some (21, false)), .f (.len (.t 23))⟩,
   ⟨(some 25), (some (21, false)), .f (.bin .gtr (.t 24) (.c (.int .i64 4096)))⟩,
   ⟨(some 26), none, .f (.pick (.t 21) (.c (.bool true)) (.t 25))⟩])
 (.cond (.t 26)
  (.seq (.reg [
    ⟨(some 2), none, .f (.mv (.c (.bool false)))⟩])
  .ret)
  .skip))
 (.seq (.reg [
   ⟨(some 27), none, .f (.fadr 0 (.t 1))⟩,
   ⟨(some 28), none, .f (.ld (.t 27))⟩,
   ⟨(some 3), none, .f (.mv (.t 28))⟩])
 (.seq (.seq (.reg [
   ⟨(some 29), none, .f (.fadr 2 (.t 1))⟩,
   ⟨(some 30), none, .f (.ld (.t 29))⟩,
   ⟨(some 31), none, .f (.len (.t 30))⟩,
   ⟨(some 32), none, .f (.mv (.c (.int .i64 0)))⟩])
 (.block 0 (.loop (.seq (.reg [
     ⟨(some 33), none, .f (.bin .lss (.t 32) (.t 31))⟩])
   (.seq (.cond (.t 33)
    .skip
    (.exit 0))
   (.seq (.block 1 (.seq (.reg [
      ⟨(some 34), none, .f (.iadr 6 (.t 30) (.t 32))⟩,
      ⟨(some 35), none, .f (.ldA 6 (.t 34))⟩,
      ⟨(some 5), none, .x (.zero 113 6 [(.int .i64 0), (.int .i64 0), (.int .i64 0), (.int .i64 0), (.bool false), (.bool false)])⟩,
      ⟨none, none, .x (.st 6 (.t 5) (.t 35))⟩])
    (.seq (.seq (.reg [
      ⟨(some 36), none, .f (.fadr 0 (.t 5))⟩,
      ⟨(some 37), none, .f (.ld (.t 36))⟩,
      ⟨(some 38), none, .f (.mv (.t 3))⟩,
      ⟨(some 39), none, .f (.bin .neq (.t 37) (.t 38))⟩,
      ⟨(some 40), none, .f (.mv (.t 39))⟩,
      ⟨(some 41), (some (40, false)), .f (.fadr 1 (.t 5))⟩,
      ⟨(some 42), (some (40, false)), .f (.ld (.t 41))⟩,
      ⟨(some 43), (some (40, false)), .f (.fadr 0 (.t 5))⟩,
      ⟨(some 44), (some (40, false)), .f (.ld (.t 43))⟩,
      ⟨(some 45), (some (40, false)), .f (.bin .leq (.t 42) (.t 44))⟩,
      ⟨(some 46), none, .f (.pick (.t 40) (.c (.bool true)) (.t 45))⟩,
      ⟨(some 47), none, .f (.mv (.t 46))⟩,
      ⟨(some 48), (some (47, false)), .f (.fadr 2 (.t 5))⟩,
      ⟨(some 49), (some (47, false)), .f (.ld (.t 48))⟩,
      ⟨(some 50), (some (47, false)), .f (.bin .lss (.t 49) (.c (.int .i64 0)))⟩,
      ⟨(some 51), none, .f (.pick (.t 47) (.c (.bool true)) (.t 50))⟩,
      ⟨(some 52), none, .f (.mv (.t 51))⟩,
      ⟨(some 53), (some (52, false)), .f (.fadr 2 (.t 5))⟩,
      ⟨(some 54), (some (52, false)), .f (.ld (.t 53))⟩,
      ⟨(some 55), (some (52, false)), .f (.bin .gtr (.t 54) (.c (.int .i64 1000000000)))⟩,
      ⟨(some 56), none, .f (.pick (.t 52) (.c (.bool true)) (.t 55))⟩,
      ⟨(some 57), none, .f (.mv (.t 56))⟩,
      ⟨(some 58), (some (57, false)), .f (.fadr 3 (.t 5))⟩,
      ⟨(some 59), (some (57, false)), .f (.ld (.t 58))⟩,
      ⟨(some 60), (some (57, false)), .f (.bin .lss (.t 59) (.c (.int .i64 1)))⟩,
      ⟨(some 61), none, .f (.pick (.t 57) (.c (.bool true)) (.t 60))⟩,
      ⟨(some 62), none, .f (.mv (.t 61))⟩,
      ⟨(some 63), (some (62, false)), .f (.fadr 3 (.t 5))⟩,
      ⟨(some 64), (some (62, false)), .f (.ld (.t 63))⟩,
      ⟨(some 65), (some (62, false)), .f (.bin .gtr (.t 64) (.c (.int .i64 1000000)))⟩,
      ⟨(some 66), none, .f (.pick (.t 62) (.c (.bool true)) (.t 65))⟩,
      ⟨(some 67), none, .f (.mv (.t 66))⟩,
      ⟨(some 68), (some (67, false)), .f (.fadr 4 (.t 5))⟩,
      ⟨(some 69), (some (67, false)), .f (.ld (.t 68))⟩,
      ⟨(some 70), (some (67, false)), .f (.mv (.t 69))⟩,
      ⟨(some 71), (some (70, true)), .f (.fadr 5 (.t 5))⟩,
      ⟨(some 72), (some (70, true)), .f (.ld (.t 71))⟩,
      ⟨(some 73), (some (67, false)), .f (.pick (.t 70) (.t 72) (.c (.bool false)))⟩,
      ⟨(some 74), none, .f (.pick (.t 67) (.c (.bool true)) (.t 73))⟩])
    (.cond (.t 74)
     (.seq (.reg [
       ⟨(some 2), none, .f (.mv (.c (.bool false)))⟩])
     .ret)
     .skip))
    (.reg [
      ⟨(some 75), none, .f (.fadr 1 (.t 5))⟩,
      ⟨(some 76), none, .f (.ld (.t 75))⟩,
      ⟨(some 3), none, .f (.mv (.t 76))⟩]))))
   (.reg [
     ⟨(some 77), none, .f (.bin .add (.t 32) (.c (.int .i64 1)))⟩,
     ⟨(some 32), none, .f (.mv (.t 77))⟩])))))))
 (.seq (.reg [
   ⟨(some 78), none, .f (.mv (.t 3))⟩,
   ⟨(some 79), none, .f (.fadr 1 (.t 1))⟩,
   ⟨(some 80), none, .f (.ld (.t 79))⟩,
   ⟨(some 81), none, .f (.bin .eql (.t 78) (.t 80))⟩,
   ⟨(some 2), none, .f (.mv (.t 81))⟩])
 .ret)))))
theorem ok69 : fnComp Try.prog 69 = some (82, c69, [(.mv (.t 2))]) := by kernel_rfl

/-- loop.example/g00003/spec.l01In -/
def c77 : CC :=
 (.seq (.reg [
   ⟨(some 6), none, .f (.mv (.c (.bool false)))⟩])
 (.seq (.reg [
   ⟨(some 7), none, .f (.mv (.t 0))⟩,
   ⟨(some 8), none, .f (.mv (.t 1))⟩,
   ⟨(some 9), none, .f (.bin .geq (.t 7) (.t 8))⟩,
   ⟨(some 10), none, .f (.mv (.t 9))⟩,
   ⟨(some 11), (some (10, true)), .f (.mv (.t 0))⟩,
   ⟨(some 12), (some (10, true)), .f (.mv (.t 2))⟩,
   ⟨(some 13), (some (10, true)), .f (.bin .leq (.t 11) (.t 12))⟩,
   ⟨(some 14), none, .f (.pick (.t 10) (.t 13) (.c (.bool false)))⟩,
   ⟨(some 6), none, .f (.mv (.t 14))⟩])
 .ret))
theorem ok77 : fnComp Try.prog 77 = some (15, c77, [(.mv (.t 6))]) := by kernel_rfl

/-- loop.example/g00003/laws.eqBoard -/
def c28 : CC :=
 (.seq (.reg [
   ⟨(some 2), none, .x (.box 40 3 (.t 0))⟩,
   ⟨(some 3), none, .x (.box 40 3 (.t 1))⟩,
   ⟨(some 4), none, .f (.mv (.c (.bool false)))⟩])
 (.seq (.seq (.reg [
   ⟨(some 5), none, .f (.fadr 0 (.t 2))⟩,
   ⟨(some 6), none, .f (.ld (.t 5))⟩,
   ⟨(some 7), none, .f (.fadr 0 (.t 3))⟩,
   ⟨(some 8), none, .f (.ld (.t 7))⟩,
   ⟨(some 9), none, .f (.bin .neq (.t 6) (.t 8))⟩])
 (.cond (.t 9)
  (.seq (.reg [
    ⟨(some 4), none, .f (.mv (.c (.bool false)))⟩])
  .ret)
  .skip))
 (.seq (.seq (.reg [
   ⟨(some 10), none, .f (.fadr 1 (.t 2))⟩,
   ⟨(some 11), none, .f (.ld (.t 10))⟩,
   ⟨(some 12), none, .f (.fadr 1 (.t 3))⟩,
   ⟨(some 13), none, .f (.ld (.t 12))⟩,
   ⟨(some 14), none, .f (.bin .neq (.t 11) (.t 13))⟩])
 (.cond (.t 14)
  (.seq (.reg [
    ⟨(some 4), none, .f (.mv (.c (.bool false)))⟩])
  .ret)
  .skip))
 (.seq (.seq (.reg [
   ⟨(some 15), none, .f (.fadr 2 (.t 2))⟩,
   ⟨(some 16), none, .f (.ld (.t 15))⟩,
   ⟨(some 17), none, .f (.fadr 2 (.t 3))⟩,
   ⟨(some 18), none, .f (.ld (.t 17))⟩,
   ⟨(some 19), none, .x (.call 71 [(.t 16), (.t 18)])⟩,
   ⟨(some 20), none, .f (.un .not (.t 19))⟩])
 (.cond (.t 20)
  (.seq (.reg [
    ⟨(some 4), none, .f (.mv (.c (.bool false)))⟩])
  .ret)
  .skip))
 (.seq (.reg [
   ⟨(some 4), none, .f (.mv (.c (.bool true)))⟩])
 .ret)))))
theorem ok28 : fnComp Try.prog 28 = some (21, c28, [(.mv (.t 4))]) := by kernel_rfl

/-- loop.example/g00003/laws.eqPieceS -/
def c71 : CC :=
 (.seq (.reg [
   ⟨(some 4), none, .f (.mv (.c (.bool false)))⟩])
 (.seq (.seq (.reg [
   ⟨(some 6), none, .f (.mv (.t 0))⟩,
   ⟨(some 7), none, .f (.len (.t 6))⟩,
   ⟨(some 8), none, .f (.mv (.t 1))⟩,
   ⟨(some 9), none, .f (.len (.t 8))⟩,
   ⟨(some 10), none, .f (.bin .neq (.t 7) (.t 9))⟩])
 (.cond (.t 10)
  (.seq (.reg [
    ⟨(some 4), none, .f (.mv (.c (.bool false)))⟩])
  .ret)
  .skip))
 (.seq (.seq (.reg [
   ⟨(some 5), none, .f (.mv (.c (.int .i64 0)))⟩])
 (.block 0 (.loop (.seq (.seq (.reg [
     ⟨(some 11), none, .f (.mv (.t 5))⟩,
     ⟨(some 12), none, .f (.mv (.t 0))⟩,
     ⟨(some 13), none, .f (.len (.t 12))⟩,
     ⟨(some 14), none, .f (.bin .lss (.t 11) (.t 13))⟩])
   (.cond (.t 14)
    .skip
    (.exit 0)))
   (.seq (.block 1 (.seq (.dreg [
      ⟨(some 17), none, .f (.mv (.t 0))⟩,
      ⟨(some 18), none, .f (.mv (.t 5))⟩,
      ⟨(some 19), none, .f (.iadr 6 (.t 17) (.t 18))⟩,
      ⟨(some 20), none, .f (.ldA 6 (.t 19))⟩,
      ⟨(some 21), none, .f (.mv (.t 1))⟩,
      ⟨(some 22), none, .f (.mv (.t 5))⟩,
      ⟨(some 23), none, .f (.iadr 6 (.t 21) (.t 22))⟩,
      ⟨(some 24), none, .f (.ldA 6 (.t 23))⟩,
      ⟨(some 25), none, .x (.call 97 [(.t 20), (.t 24)])⟩,
      ⟨(some 26), none, .f (.un .not (.t 25))⟩]
      [false, false, false, false, false, false, false, false, true, false] [[], [], [0, 1], [2, 0, 1], [], [], [4, 5], [6, 4, 5], [3, 2, 0, 1, 7, 6, 4, 5], [8, 3, 2, 0, 1, 7, 6, 4, 5]] [0, 1, 2, 3, 4, 5, 6, 7, 8, 9])
    (.cond (.t 26)
     (.seq (.reg [
       ⟨(some 4), none, .f (.mv (.c (.bool false)))⟩])
     .ret)
     .skip)))
   (.reg [
     ⟨(some 15), none, .f (.mv (.t 5))⟩,
     ⟨(some 16), none, .f (.bin .add (.t 15) (.c (.int .i64 1)))⟩,
     ⟨(some 5), none, .f (.mv (.t 16))⟩]))))))
 (.seq (.reg [
   ⟨(some 4), none, .f (.mv (.c (.bool true)))⟩])
 .ret))))
theorem ok71 : fnComp Try.prog 71 = some (27, c71, [(.mv (.t 4))]) := by kernel_rfl

/-- loop.example/g00003/laws.eqPiece -/
def c97 : CC :=
 (.seq (.reg [
   ⟨(some 2), none, .x (.box 113 6 (.t 0))⟩,
   ⟨(some 3), none, .x (.box 113 6 (.t 1))⟩,
   ⟨(some 4), none, .f (.mv (.c (.bool false)))⟩])
 (.seq (.seq (.reg [
   ⟨(some 5), none, .f (.fadr 0 (.t 2))⟩,
   ⟨(some 6), none, .f (.ld (.t 5))⟩,
   ⟨(some 7), none, .f (.fadr 0 (.t 3))⟩,
   ⟨(some 8), none, .f (.ld (.t 7))⟩,
   ⟨(some 9), none, .f (.bin .neq (.t 6) (.t 8))⟩])
 (.cond (.t 9)
  (.seq (.reg [
    ⟨(some 4), none, .f (.mv (.c (.bool false)))⟩])
  .ret)
  .skip))
 (.seq (.seq (.reg [
   ⟨(some 10), none, .f (.fadr 1 (.t 2))⟩,
   ⟨(some 11), none, .f (.ld (.t 10))⟩,
   ⟨(some 12), none, .f (.fadr 1 (.t 3))⟩,
   ⟨(some 13), none, .f (.ld (.t 12))⟩,
   ⟨(some 14), none, .f (.bin .neq (.t 11) (.t 13))⟩])
 (.cond (.t 14)
  (.seq (.reg [
    ⟨(some 4), none, .f (.mv (.c (.bool false)))⟩])
  .ret)
  .skip))
 (.seq (.seq (.reg [
   ⟨(some 15), none, .f (.fadr 2 (.t 2))⟩,
   ⟨(some 16), none, .f (.ld (.t 15))⟩,
   ⟨(some 17), none, .f (.fadr 2 (.t 3))⟩,
   ⟨(some 18), none, .f (.ld (.t 17))⟩,
   ⟨(some 19), none, .f (.bin .neq (.t 16) (.t 18))⟩])
 (.cond (.t 19)
  (.seq (.reg [
    ⟨(some 4), none, .f (.mv (.c (.bool false)))⟩])
  .ret)
  .skip))
 (.seq (.seq (.reg [
   ⟨(some 20), none, .f (.fadr 3 (.t 2))⟩,
   ⟨(some 21), none, .f (.ld (.t 20))⟩,
   ⟨(some 22), none, .f (.fadr 3 (.t 3))⟩,
   ⟨(some 23), none, .f (.ld (.t 22))⟩,
   ⟨(some 24), none, .f (.bin .neq (.t 21) (.t 23))⟩])
 (.cond (.t 24)
  (.seq (.reg [
    ⟨(some 4), none, .f (.mv (.c (.bool false)))⟩])
  .ret)
  .skip))
 (.seq (.seq (.reg [
   ⟨(some 25), none, .f (.fadr 4 (.t 2))⟩,
   ⟨(some 26), none, .f (.ld (.t 25))⟩,
   ⟨(some 27), none, .f (.fadr 4 (.t 3))⟩,
   ⟨(some 28), none, .f (.ld (.t 27))⟩,
   ⟨(some 29), none, .f (.binB true (.t 26) (.t 28))⟩])
 (.cond (.t 29)
  (.seq (.reg [
    ⟨(some 4), none, .f (.mv (.c (.bool false)))⟩])
  .ret)
  .skip))
 (.seq (.seq (.reg [
   ⟨(some 30), none, .f (.fadr 5 (.t 2))⟩,
   ⟨(some 31), none, .f (.ld (.t 30))⟩,
   ⟨(some 32), none, .f (.fadr 5 (.t 3))⟩,
   ⟨(some 33), none, .f (.ld (.t 32))⟩,
   ⟨(some 34), none, .f (.binB true (.t 31) (.t 33))⟩])
 (.cond (.t 34)
  (.seq (.reg [
    ⟨(some 4), none, .f (.mv (.c (.bool false)))⟩])
  .ret)
  .skip))
 (.seq (.reg [
   ⟨(some 4), none, .f (.mv (.c (.bool true)))⟩])
 .ret))))))))
theorem ok97 : fnComp Try.prog 97 = some (35, c97, [(.mv (.t 4))]) := by kernel_rfl

/-- loop.example/g00003/laws.toBoard -/
def c26 : CC :=
 (.seq (.reg [
   ⟨(some 1), none, .x (.box 35 3 (.t 0))⟩,
   ⟨(some 2), none, .x (.zero 40 3 [(.int .i64 0), (.int .i64 0), .nilslice])⟩])
 (.seq (.reg [
   ⟨(some 3), none, .x (.zero 40 3 [(.int .i64 0), (.int .i64 0), .nilslice])⟩])
 (.seq (.reg [
   ⟨(some 4), none, .f (.fadr 0 (.t 1))⟩,
   ⟨(some 5), none, .f (.ld (.t 4))⟩,
   ⟨(some 6), none, .f (.fadr 0 (.t 3))⟩,
   ⟨none, none, .x (.st 1 (.t 6) (.t 5))⟩])
 (.seq (.reg [
   ⟨(some 7), none, .f (.fadr 1 (.t 1))⟩,
   ⟨(some 8), none, .f (.ld (.t 7))⟩,
   ⟨(some 9), none, .f (.fadr 1 (.t 3))⟩,
   ⟨none, none, .x (.st 1 (.t 9) (.t 8))⟩])
 (.seq (.reg [
   ⟨(some 10), none, .f (.fadr 2 (.t 1))⟩,
   ⟨(some 11), none, .f (.ld (.t 10))⟩,
   ⟨(some 12), none, .x (.call 68 [(.t 11)])⟩,
   ⟨(some 13), none, .f (.fadr 2 (.t 3))⟩,
   ⟨none, none, .x (.st 1 (.t 13) (.t 12))⟩])
 (.seq (.reg [
   ⟨(some 14), none, .f (.ldA 3 (.t 3))⟩,
   ⟨none, none, .x (.st 3 (.t 2) (.t 14))⟩])
 .ret))))))
theorem ok26 : fnComp Try.prog 26 = some (15, c26, [(.ldA 3 (.t 2))]) := by kernel_rfl

/-- loop.example/g00003/laws.toPieceS -/
def c68 : CC :=
 (.seq (.reg [
   ⟨(some 2), none, .f (.mv (.c .nilslice))⟩])
 (.seq (.reg [
   ⟨(some 5), none, .f (.mv (.t 0))⟩,
   ⟨(some 6), none, .f (.len (.t 5))⟩,
   ⟨(some 7), none, .x (.mks 113 6 40 [(.int .i64 0), (.int .i64 0), (.int .i64 0), (.int .i64 0), (.bool false), (.bool false)] (.t 6) (.t 6))⟩,
   ⟨(some 3), none, .f (.mv (.t 7))⟩])
 (.seq (.seq (.reg [
   ⟨(some 4), none, .f (.mv (.c (.int .i64 0)))⟩])
 (.block 0 (.loop (.seq (.seq (.reg [
     ⟨(some 8), none, .f (.mv (.t 4))⟩,
     ⟨(some 9), none, .f (.mv (.t 0))⟩,
     ⟨(some 10), none, .f (.len (.t 9))⟩,
     ⟨(some 11), none, .f (.bin .lss (.t 8) (.t 10))⟩])
   (.cond (.t 11)
    .skip
    (.exit 0)))
   (.seq (.block 1 (.reg [
      ⟨(some 14), none, .f (.mv (.t 3))⟩,
      ⟨(some 15), none, .f (.mv (.t 4))⟩,
      ⟨(some 16), none, .f (.mv (.t 0))⟩,
      ⟨(some 17), none, .f (.mv (.t 4))⟩,
      ⟨(some 18), none, .f (.iadr 6 (.t 16) (.t 17))⟩,
      ⟨(some 19), none, .f (.ldA 6 (.t 18))⟩,
      ⟨(some 20), none, .x (.call 96 [(.t 19)])⟩,
      ⟨(some 21), none, .f (.iadr 6 (.t 14) (.t 15))⟩,
      ⟨none, none, .x (.st 6 (.t 21) (.t 20))⟩]))
   (.reg [
     ⟨(some 12), none, .f (.mv (.t 4))⟩,
     ⟨(some 13), none, .f (.bin .add (.t 12) (.c (.int .i64 1)))⟩,
     ⟨(some 4), none, .f (.mv (.t 13))⟩]))))))
 (.seq (.reg [
   ⟨(some 22), none, .f (.mv (.t 3))⟩,
   ⟨(some 2), none, .f (.mv (.t 22))⟩])
 .ret))))
theorem ok68 : fnComp Try.prog 68 = some (23, c68, [(.mv (.t 2))]) := by kernel_rfl

/-- loop.example/g00003/laws.toPiece -/
def c96 : CC :=
 (.seq (.reg [
   ⟨(some 1), none, .x (.box 145 6 (.t 0))⟩,
   ⟨(some 2), none, .x (.zero 113 6 [(.int .i64 0), (.int .i64 0), (.int .i64 0), (.int .i64 0), (.bool false), (.bool false)])⟩])
 (.seq (.reg [
   ⟨(some 3), none, .x (.zero 113 6 [(.int .i64 0), (.int .i64 0), (.int .i64 0), (.int .i64 0), (.bool false), (.bool false)])⟩])
 (.seq (.reg [
   ⟨(some 4), none, .f (.fadr 0 (.t 1))⟩,
   ⟨(some 5), none, .f (.ld (.t 4))⟩,
   ⟨(some 6), none, .f (.fadr 0 (.t 3))⟩,
   ⟨none, none, .x (.st 1 (.t 6) (.t 5))⟩])
 (.seq (.reg [
   ⟨(some 7), none, .f (.fadr 1 (.t 1))⟩,
   ⟨(some 8), none, .f (.ld (.t 7))⟩,
   ⟨(some 9), none, .f (.fadr 1 (.t 3))⟩,
   ⟨none, none, .x (.st 1 (.t 9) (.t 8))⟩])
 (.seq (.reg [
   ⟨(some 10), none, .f (.fadr 2 (.t 1))⟩,
   ⟨(some 11), none, .f (.ld (.t 10))⟩,
   ⟨(some 12), none, .f (.fadr 2 (.t 3))⟩,
   ⟨none, none, .x (.st 1 (.t 12) (.t 11))⟩])
 (.seq (.reg [
   ⟨(some 13), none, .f (.fadr 3 (.t 1))⟩,
   ⟨(some 14), none, .f (.ld (.t 13))⟩,
   ⟨(some 15), none, .f (.fadr 3 (.t 3))⟩,
   ⟨none, none, .x (.st 1 (.t 15) (.t 14))⟩])
 (.seq (.reg [
   ⟨(some 16), none, .f (.fadr 4 (.t 1))⟩,
   ⟨(some 17), none, .f (.ld (.t 16))⟩,
   ⟨(some 18), none, .f (.fadr 4 (.t 3))⟩,
   ⟨none, none, .x (.st 1 (.t 18) (.t 17))⟩])
 (.seq (.reg [
   ⟨(some 19), none, .f (.fadr 5 (.t 1))⟩,
   ⟨(some 20), none, .f (.ld (.t 19))⟩,
   ⟨(some 21), none, .f (.fadr 5 (.t 3))⟩,
   ⟨none, none, .x (.st 1 (.t 21) (.t 20))⟩])
 (.seq (.reg [
   ⟨(some 22), none, .f (.ldA 6 (.t 3))⟩,
   ⟨none, none, .x (.st 6 (.t 2) (.t 22))⟩])
 .ret)))))))))
theorem ok96 : fnComp Try.prog 96 = some (23, c96, [(.ldA 6 (.t 2))]) := by kernel_rfl

/-- loop.example/g00003/laws.szBoard -/
def c24 : CC :=
 (.seq (.reg [
   ⟨(some 2), none, .x (.box 35 3 (.t 0))⟩,
   ⟨(some 4), none, .f (.mv (.c (.int .i64 0)))⟩])
 (.seq (.reg [
   ⟨(some 5), none, .f (.fadr 2 (.t 2))⟩,
   ⟨(some 6), none, .f (.ld (.t 5))⟩,
   ⟨(some 7), none, .f (.mv (.t 1))⟩,
   ⟨(some 8), none, .x (.call 66 [(.t 6), (.t 7)])⟩,
   ⟨(some 1), none, .f (.mv (.t 8))⟩])
 (.seq (.seq (.reg [
   ⟨(some 9), none, .f (.mv (.t 1))⟩,
   ⟨(some 10), none, .f (.bin .lss (.t 9) (.c (.int .i64 0)))⟩])
 (.cond (.t 10)
  (.seq (.reg [
    ⟨(some 4), none, .f (.mv (.c (.int .i64 (-1))))⟩])
  .ret)
  .skip))
 (.seq (.reg [
   ⟨(some 11), none, .f (.mv (.t 1))⟩,
   ⟨(some 4), none, .f (.mv (.t 11))⟩])
 .ret))))
theorem ok24 : fnComp Try.prog 24 = some (12, c24, [(.mv (.t 4))]) := by kernel_rfl

/-- loop.example/g00003/laws.szPieceS -/
def c66 : CC :=
 (.seq (.reg [
   ⟨(some 4), none, .f (.mv (.c (.int .i64 0)))⟩])
 (.seq (.reg [
   ⟨(some 5), none, .f (.mv (.t 1))⟩,
   ⟨(some 6), none, .f (.mv (.t 0))⟩,
   ⟨(some 7), none, .f (.len (.t 6))⟩,
   ⟨(some 8), none, .f (.bin .sub (.t 5) (.t 7))⟩,
   ⟨(some 1), none, .f (.mv (.t 8))⟩])
 (.seq (.seq (.reg [
   ⟨(some 9), none, .f (.mv (.t 1))⟩,
   ⟨(some 10), none, .f (.bin .lss (.t 9) (.c (.int .i64 0)))⟩])
 (.cond (.t 10)
  (.seq (.reg [
    ⟨(some 4), none, .f (.mv (.c (.int .i64 (-1))))⟩])
  .ret)
  .skip))
 (.seq (.reg [
   ⟨(some 11), none, .f (.mv (.t 1))⟩,
   ⟨(some 4), none, .f (.mv (.t 11))⟩])
 .ret))))
theorem ok66 : fnComp Try.prog 66 = some (12, c66, [(.mv (.t 4))]) := by kernel_rfl

/-- loop.example/g00003/impl.ownBoard -/
def c73 : CC :=
 (.seq (.reg [
   ⟨(some 1), none, .x (.box 40 3 (.t 0))⟩,
   ⟨(some 2), none, .x (.zero 40 3 [(.int .i64 0), (.int .i64 0), .nilslice])⟩])
 (.seq (.reg [
   ⟨(some 3), none, .f (.fadr 2 (.t 1))⟩,
   ⟨(some 4), none, .f (.ld (.t 3))⟩,
   ⟨(some 5), none, .x (.call 98 [(.t 4)])⟩,
   ⟨(some 6), none, .f (.fadr 2 (.t 1))⟩,
   ⟨none, none, .x (.st 1 (.t 6) (.t 5))⟩])
 (.seq (.reg [
   ⟨(some 7), none, .f (.ldA 3 (.t 1))⟩,
   ⟨none, none, .x (.st 3 (.t 2) (.t 7))⟩])
 .ret)))
theorem ok73 : fnComp Try.prog 73 = some (8, c73, [(.ldA 3 (.t 2))]) := by kernel_rfl

end Go.Proofs.Ytecljenjlncfhaa

namespace Go.Proofs.Ytecljenjlncfhaa
open Go Go.IW

structure Piece where
  fr : Int
  to : Int
  at_ : Int
  times : Int
  sacked : Bool
  lost : Bool
def Piece.row (p : Piece) : List IV := [.int .i64 p.fr, .int .i64 p.to, .int .i64 p.at_, .int .i64 p.times, .bool p.sacked, .bool p.lost]

def okPs (nxt : Int) : Int → List Piece → Bool
  | at_, [] => decide (at_ = nxt)
  | at_, p :: r => decide (p.fr = at_) && decide (p.fr < p.to) && decide (0 ≤ p.at_) && decide (p.at_ ≤ 1000000000) && decide (1 ≤ p.times) && decide (p.times ≤ 1000000) && !(p.sacked && p.lost) && okPs nxt p.to r
def okB (una nxt : Int) (ps : List Piece) : Bool := decide (0 ≤ una) && decide (una ≤ nxt) && decide (nxt ≤ 1099511627776) && decide (ps.length ≤ 4096) && okPs nxt una ps

set_option maxRecDepth 20000 in
theorem okBoard_c (h : IH) (una nxt : Int) (v : IV) (ps : List Piece) (hs : SlR h 6 v (ps.map Piece.row)) :
    ICalls Try.prog 69 [.agg [.int .i64 una, .int .i64 nxt, v]] h fun r h' => r = .bool (okB una nxt ps) ∧ Ext h h' := by
  refine icalls (.of ok69) (Nat.le_of_ble_eq_true rfl) ?_
  unfold c69
  have hv1 := hs.one
  have hlen := hs.lenF
  rw [List.length_map] at hlen
  have hE0 : Ext h (h.push (IObj.rows [[IV.int IntKind.i64 una, IV.int IntKind.i64 nxt, v]] 40 3 false)) := (Ext.refl h).push _
  simp only [hv1, go_sem, Hold.p, HoldK.k, HoldL.K, HoldL.body, Nat.reduceBEq, Nat.reduceAdd, List.getElem?_cons_zero, List.getElem?_cons_succ, Option.bind_some, List.map_cons, List.map_nil, Nat.zero_add, if_true, List.getD_cons_zero, List.getD_cons_succ, List.contains_cons, List.contains_nil, Nat.reduceBEq, Bool.or_true, Bool.true_or, Bool.or_false, Bool.false_or, Bool.not_true, Bool.not_false, true_and, and_true]
  refine guard_of (fun hb => ?_) (fun hb => ?_)
  case refine_2 => simp only [hb, hv1, hlen, go_sem, Hold.p, HoldK.k, HoldL.K, HoldL.body, Nat.reduceBEq, Nat.reduceAdd, List.getElem?_cons_zero, List.getElem?_cons_succ, Option.bind_some, List.map_cons, List.map_nil, Nat.zero_add, if_true, List.getD_cons_zero, List.getD_cons_succ, List.contains_cons, List.contains_nil, Nat.reduceBEq, Bool.or_true, Bool.true_or, Bool.or_false, Bool.false_or, Bool.not_true, Bool.not_false, true_and, and_true]; exact ⟨by simp at hb; simp [okB]; omega, hE0⟩
  simp only [hb, hv1, hlen, go_sem, Hold.p, HoldK.k, HoldL.K, HoldL.body, Nat.reduceBEq, Nat.reduceAdd, List.getElem?_cons_zero, List.getElem?_cons_succ, Option.bind_some, List.map_cons, List.map_nil, Nat.zero_add, if_true, List.getD_cons_zero, List.getD_cons_succ, List.contains_cons, List.contains_nil, Nat.reduceBEq, Bool.or_true, Bool.true_or, Bool.or_false, Bool.false_or, Bool.not_true, Bool.not_false, true_and, and_true]
  refine guard_of (fun hb2 => ?_) (fun hb2 => ?_)
  case refine_2 => simp only [hb2, hv1, hlen, go_sem, Hold.p, HoldK.k, HoldL.K, HoldL.body, Nat.reduceBEq, Nat.reduceAdd, List.getElem?_cons_zero, List.getElem?_cons_succ, Option.bind_some, List.map_cons, List.map_nil, Nat.zero_add, if_true, List.getD_cons_zero, List.getD_cons_succ, List.contains_cons, List.contains_nil, Nat.reduceBEq, Bool.or_true, Bool.true_or, Bool.or_false, Bool.false_or, Bool.not_true, Bool.not_false, true_and, and_true]; exact ⟨by simp at hb2; simp [okB]; omega, hE0⟩
  simp only [hb2, hv1, hlen, go_sem, Hold.p, HoldK.k, HoldL.K, HoldL.body, Nat.reduceBEq, Nat.reduceAdd, List.getElem?_cons_zero, List.getElem?_cons_succ, Option.bind_some, List.map_cons, List.map_nil, Nat.zero_add, if_true, List.getD_cons_zero, List.getD_cons_succ, List.contains_cons, List.contains_nil, Nat.reduceBEq, Bool.or_true, Bool.true_or, Bool.or_false, Bool.false_or, Bool.not_true, Bool.not_false, true_and, and_true]
  refine guard_of (fun hb3 => ?_) (fun hb3 => ?_)
  case refine_2 => simp only [hb3, hv1, hlen, go_sem, Hold.p, HoldK.k, HoldL.K, HoldL.body, Nat.reduceBEq, Nat.reduceAdd, List.getElem?_cons_zero, List.getElem?_cons_succ, Option.bind_some, List.map_cons, List.map_nil, Nat.zero_add, if_true, List.getD_cons_zero, List.getD_cons_succ, List.contains_cons, List.contains_nil, Nat.reduceBEq, Bool.or_true, Bool.true_or, Bool.or_false, Bool.false_or, Bool.not_true, Bool.not_false, true_and, and_true]; exact ⟨by simp at hb3; simp [okB]; omega, hE0⟩
  simp only [hb3, hv1, hlen, go_sem, Hold.p, HoldK.k, HoldL.K, HoldL.body, Nat.reduceBEq, Nat.reduceAdd, List.getElem?_cons_zero, List.getElem?_cons_succ, Option.bind_some, List.map_cons, List.map_nil, Nat.zero_add, if_true, List.getD_cons_zero, List.getD_cons_succ, List.contains_cons, List.contains_nil, Nat.reduceBEq, Bool.or_true, Bool.true_or, Bool.or_false, Bool.false_or, Bool.not_true, Bool.not_false, true_and, and_true]
  refine test_dec (fun hb4 => ?_) (fun hb4 => ?_)
  case refine_1 => simp only [hv1, hlen, go_sem, Hold.p, HoldK.k, HoldL.K, HoldL.body, Nat.reduceBEq, Nat.reduceAdd, List.getElem?_cons_zero, List.getElem?_cons_succ, Option.bind_some, List.map_cons, List.map_nil, Nat.zero_add, if_true, List.getD_cons_zero, List.getD_cons_succ, List.contains_cons, List.contains_nil, Nat.reduceBEq, Bool.or_true, Bool.true_or, Bool.or_false, Bool.false_or, Bool.not_true, Bool.not_false, true_and, and_true]; exact ⟨by simp [okB]; omega, hE0⟩
  simp only [hv1, hlen, go_sem, Hold.p, HoldK.k, HoldL.K, HoldL.body, Nat.reduceBEq, Nat.reduceAdd, List.getElem?_cons_zero, List.getElem?_cons_succ, Option.bind_some, List.map_cons, List.map_nil, Nat.zero_add, if_true, List.getD_cons_zero, List.getD_cons_succ, List.contains_cons, List.contains_nil, Nat.reduceBEq, Bool.or_true, Bool.true_or, Bool.or_false, Bool.false_or, Bool.not_true, Bool.not_false, true_and, and_true]
  simp at hb hb2 hb3
  have hok : okB una nxt ps = okPs nxt una ps := by
    have e4 : ps.length ≤ 4096 := by omega
    simp [okB, hb, hb2, hb3, e4]
  rw [hok]
  refine loop_at (fun n e h' => ∃ k at_, n = ps.length - k ∧ k ≤ ps.length ∧ e 1 = .ptr h.n 0 0 ∧ e 30 = v ∧ e 31 = .int .i64 ps.length ∧ e 32 = .int .i64 k ∧ e 3 = .int .i64 at_ ∧ okPs nxt una ps = okPs nxt at_ (ps.drop k) ∧
    Ext (h.push (IObj.rows [[IV.int IntKind.i64 una, IV.int IntKind.i64 nxt, v]] 40 3 false)) h') ps.length ?_ ?_
  · refine ⟨0, una, by omega, by omega, ?_⟩
    simp only [go_sem, Hold.p, HoldK.k, HoldL.K, HoldL.body, Nat.reduceBEq, Nat.reduceAdd, List.getElem?_cons_zero, List.getElem?_cons_succ, Option.bind_some, List.map_cons, List.map_nil, Nat.zero_add, if_true, List.getD_cons_zero, List.getD_cons_succ, List.contains_cons, List.contains_nil, Nat.reduceBEq, Bool.or_true, Bool.true_or, Bool.or_false, Bool.false_or, Bool.not_true, Bool.not_false, true_and, and_true]
    exact ⟨rfl, rfl, Ext.refl _⟩
  · rintro n e h' ⟨k, at_, rfl, hk, e1, e30, e31, e32, e3, hrel, hE⟩
    have hbox : h'.obj h.n = .rows [[.int .i64 una, .int .i64 nxt, v]] 40 3 false := (hE.obj h.n (by simp only [push_n]; omega)).trans (push_new _ _)
    simp only [e1, e30, e31, e32, e3, go_sem, Hold.p, HoldK.k, HoldL.K, HoldL.body, Nat.reduceBEq, Nat.reduceAdd, List.getElem?_cons_zero, List.getElem?_cons_succ, Option.bind_some, List.map_cons, List.map_nil, Nat.zero_add, if_true, List.getD_cons_zero, List.getD_cons_succ, List.contains_cons, List.contains_nil, Nat.reduceBEq, Bool.or_true, Bool.true_or, Bool.or_false, Bool.false_or, Bool.not_true, Bool.not_false, true_and, and_true]
    refine test_dec (fun hlt => ?_) (fun hlt => ?_)
    · simp only [e1, e30, e31, e32, e3, go_sem, Hold.p, HoldK.k, HoldL.K, HoldL.body, Nat.reduceBEq, Nat.reduceAdd, List.getElem?_cons_zero, List.getElem?_cons_succ, Option.bind_some, List.map_cons, List.map_nil, Nat.zero_add, if_true, List.getD_cons_zero, List.getD_cons_succ, List.contains_cons, List.contains_nil, Nat.reduceBEq, Bool.or_true, Bool.true_or, Bool.or_false, Bool.false_or, Bool.not_true, Bool.not_false, true_and, and_true]
      have hlt' : k < ps.length := by omega
      have hkp : ps[k]? = some ps[k] := List.getElem?_eq_getElem hlt'
      have hdrop : ps.drop k = ps[k] :: ps.drop (k + 1) := List.drop_eq_getElem_cons hlt'
      generalize ps[k] = p at hkp hdrop
      obtain ⟨l, j, hia, hll, hrow⟩ := ((hs.ext hE0).ext hE).at (m := k) (row := p.row) (by rw [List.getElem?_map, hkp]; rfl) .i64
      rw [hrel, hdrop]
      have hrl : p.row.length = 6 := rfl
      refine got_of hia ?_
      simp only [hrow, rowA_whole _ _ hrl, go_sem, Hold.p, HoldK.k, HoldL.K, HoldL.body, Nat.reduceBEq, Nat.reduceAdd, List.getElem?_cons_zero, List.getElem?_cons_succ, Option.bind_some, List.map_cons, List.map_nil, Nat.zero_add, if_true, List.getD_cons_zero, List.getD_cons_succ, List.contains_cons, List.contains_nil, Nat.reduceBEq, Bool.or_true, Bool.true_or, Bool.or_false, Bool.false_or, Bool.not_true, Bool.not_false, true_and, and_true]
      refine stO_of (row := [.int .i64 0, .int .i64 0, .int .i64 0, .int .i64 0, .bool false, .bool false]) rfl rfl (by simp) (by simp [Piece.row, IV.one]) ?_
      have hwrt : wrt [IV.int .i64 0, .int .i64 0, .int .i64 0, .int .i64 0, .bool false, .bool false] 0 p.row = p.row := rfl
      rw [hwrt]
      simp only [e1, e30, e31, e32, e3, List.set_cons_zero, Piece.row, go_sem, Hold.p, HoldK.k, HoldL.K, HoldL.body, Nat.reduceBEq, Nat.reduceAdd, List.getElem?_cons_zero, List.getElem?_cons_succ, Option.bind_some, List.map_cons, List.map_nil, Nat.zero_add, if_true, List.getD_cons_zero, List.getD_cons_succ, List.contains_cons, List.contains_nil, Nat.reduceBEq, Bool.or_true, Bool.true_or, Bool.or_false, Bool.false_or, Bool.not_true, Bool.not_false, true_and, and_true]
      have hEx : Ext h ((h'.push (IObj.rows [[IV.int .i64 p.fr, .int .i64 p.to, .int .i64 p.at_, .int .i64 p.times, .bool p.sacked, .bool p.lost]] 40 6 false))) := hE0.trans (hE.trans ((Ext.refl _).push _))
      have hno : okPs nxt at_ (p :: ps.drop (k + 1)) = (decide (p.fr = at_) && decide (p.fr < p.to) && decide (0 ≤ p.at_) && decide (p.at_ ≤ 1000000000) && decide (1 ≤ p.times) && decide (p.times ≤ 1000000) && !(p.sacked && p.lost) && okPs nxt p.to (ps.drop (k + 1))) := rfl
      have hX : ∀ o1 o2, Ext h ((h'.push o1).set h'.n o2) := fun o1 o2 => hE0.trans (hE.trans (((Ext.refl _).push _).set _ (Nat.le_refl _) _))
      refine guard_of (fun c1 => ?_) (fun c1 => ?_)
      case refine_2 => (try simp only [Bool.not_false, Bool.not_true] at c1); simp only [c1, e1, e30, e31, e32, e3, go_sem, Hold.p, HoldK.k, HoldL.K, HoldL.body, Nat.reduceBEq, Nat.reduceAdd, List.getElem?_cons_zero, List.getElem?_cons_succ, Option.bind_some, List.map_cons, List.map_nil, Nat.zero_add, if_true, List.getD_cons_zero, List.getD_cons_succ, List.contains_cons, List.contains_nil, Nat.reduceBEq, Bool.or_true, Bool.true_or, Bool.or_false, Bool.false_or, Bool.not_true, Bool.not_false, true_and, and_true]; exact ⟨by simp at c1; simp [hno, c1] <;> omega, hX _ _⟩
      simp only [c1, e1, e30, e31, e32, e3, go_sem, Hold.p, HoldK.k, HoldL.K, HoldL.body, Nat.reduceBEq, Nat.reduceAdd, List.getElem?_cons_zero, List.getElem?_cons_succ, Option.bind_some, List.map_cons, List.map_nil, Nat.zero_add, if_true, List.getD_cons_zero, List.getD_cons_succ, List.contains_cons, List.contains_nil, Nat.reduceBEq, Bool.or_true, Bool.true_or, Bool.or_false, Bool.false_or, Bool.not_true, Bool.not_false, true_and, and_true]
      refine guard_of (fun c2 => ?_) (fun c2 => ?_)
      case refine_2 => (try simp only [Bool.not_false, Bool.not_true] at c2); simp only [c2, e1, e30, e31, e32, e3, go_sem, Hold.p, HoldK.k, HoldL.K, HoldL.body, Nat.reduceBEq, Nat.reduceAdd, List.getElem?_cons_zero, List.getElem?_cons_succ, Option.bind_some, List.map_cons, List.map_nil, Nat.zero_add, if_true, List.getD_cons_zero, List.getD_cons_succ, List.contains_cons, List.contains_nil, Nat.reduceBEq, Bool.or_true, Bool.true_or, Bool.or_false, Bool.false_or, Bool.not_true, Bool.not_false, true_and, and_true]; exact ⟨by simp at c2; simp [hno, c2] <;> omega, hX _ _⟩
      simp only [c2, e1, e30, e31, e32, e3, go_sem, Hold.p, HoldK.k, HoldL.K, HoldL.body, Nat.reduceBEq, Nat.reduceAdd, List.getElem?_cons_zero, List.getElem?_cons_succ, Option.bind_some, List.map_cons, List.map_nil, Nat.zero_add, if_true, List.getD_cons_zero, List.getD_cons_succ, List.contains_cons, List.contains_nil, Nat.reduceBEq, Bool.or_true, Bool.true_or, Bool.or_false, Bool.false_or, Bool.not_true, Bool.not_false, true_and, and_true]
      refine guard_of (fun c3 => ?_) (fun c3 => ?_)
      case refine_2 => (try simp only [Bool.not_false, Bool.not_true] at c3); simp only [c3, e1, e30, e31, e32, e3, go_sem, Hold.p, HoldK.k, HoldL.K, HoldL.body, Nat.reduceBEq, Nat.reduceAdd, List.getElem?_cons_zero, List.getElem?_cons_succ, Option.bind_some, List.map_cons, List.map_nil, Nat.zero_add, if_true, List.getD_cons_zero, List.getD_cons_succ, List.contains_cons, List.contains_nil, Nat.reduceBEq, Bool.or_true, Bool.true_or, Bool.or_false, Bool.false_or, Bool.not_true, Bool.not_false, true_and, and_true]; exact ⟨by simp at c3; simp [hno, c3] <;> omega, hX _ _⟩
      simp only [c3, e1, e30, e31, e32, e3, go_sem, Hold.p, HoldK.k, HoldL.K, HoldL.body, Nat.reduceBEq, Nat.reduceAdd, List.getElem?_cons_zero, List.getElem?_cons_succ, Option.bind_some, List.map_cons, List.map_nil, Nat.zero_add, if_true, List.getD_cons_zero, List.getD_cons_succ, List.contains_cons, List.contains_nil, Nat.reduceBEq, Bool.or_true, Bool.true_or, Bool.or_false, Bool.false_or, Bool.not_true, Bool.not_false, true_and, and_true]
      refine guard_of (fun c4 => ?_) (fun c4 => ?_)
      case refine_2 => (try simp only [Bool.not_false, Bool.not_true] at c4); simp only [c4, e1, e30, e31, e32, e3, go_sem, Hold.p, HoldK.k, HoldL.K, HoldL.body, Nat.reduceBEq, Nat.reduceAdd, List.getElem?_cons_zero, List.getElem?_cons_succ, Option.bind_some, List.map_cons, List.map_nil, Nat.zero_add, if_true, List.getD_cons_zero, List.getD_cons_succ, List.contains_cons, List.contains_nil, Nat.reduceBEq, Bool.or_true, Bool.true_or, Bool.or_false, Bool.false_or, Bool.not_true, Bool.not_false, true_and, and_true]; exact ⟨by simp at c4; simp [hno, c4] <;> omega, hX _ _⟩
      simp only [c4, e1, e30, e31, e32, e3, go_sem, Hold.p, HoldK.k, HoldL.K, HoldL.body, Nat.reduceBEq, Nat.reduceAdd, List.getElem?_cons_zero, List.getElem?_cons_succ, Option.bind_some, List.map_cons, List.map_nil, Nat.zero_add, if_true, List.getD_cons_zero, List.getD_cons_succ, List.contains_cons, List.contains_nil, Nat.reduceBEq, Bool.or_true, Bool.true_or, Bool.or_false, Bool.false_or, Bool.not_true, Bool.not_false, true_and, and_true]
      refine guard_of (fun c5 => ?_) (fun c5 => ?_)
      case refine_2 => (try simp only [Bool.not_false, Bool.not_true] at c5); simp only [c5, e1, e30, e31, e32, e3, go_sem, Hold.p, HoldK.k, HoldL.K, HoldL.body, Nat.reduceBEq, Nat.reduceAdd, List.getElem?_cons_zero, List.getElem?_cons_succ, Option.bind_some, List.map_cons, List.map_nil, Nat.zero_add, if_true, List.getD_cons_zero, List.getD_cons_succ, List.contains_cons, List.contains_nil, Nat.reduceBEq, Bool.or_true, Bool.true_or, Bool.or_false, Bool.false_or, Bool.not_true, Bool.not_false, true_and, and_true]; exact ⟨by simp at c5; simp [hno, c5] <;> omega, hX _ _⟩
      simp only [c5, e1, e30, e31, e32, e3, go_sem, Hold.p, HoldK.k, HoldL.K, HoldL.body, Nat.reduceBEq, Nat.reduceAdd, List.getElem?_cons_zero, List.getElem?_cons_succ, Option.bind_some, List.map_cons, List.map_nil, Nat.zero_add, if_true, List.getD_cons_zero, List.getD_cons_succ, List.contains_cons, List.contains_nil, Nat.reduceBEq, Bool.or_true, Bool.true_or, Bool.or_false, Bool.false_or, Bool.not_true, Bool.not_false, true_and, and_true]
      refine guard_of (fun c6 => ?_) (fun c6 => ?_)
      case refine_2 => (try simp only [Bool.not_false, Bool.not_true] at c6); simp only [c6, e1, e30, e31, e32, e3, go_sem, Hold.p, HoldK.k, HoldL.K, HoldL.body, Nat.reduceBEq, Nat.reduceAdd, List.getElem?_cons_zero, List.getElem?_cons_succ, Option.bind_some, List.map_cons, List.map_nil, Nat.zero_add, if_true, List.getD_cons_zero, List.getD_cons_succ, List.contains_cons, List.contains_nil, Nat.reduceBEq, Bool.or_true, Bool.true_or, Bool.or_false, Bool.false_or, Bool.not_true, Bool.not_false, true_and, and_true]; exact ⟨by simp at c6; simp [hno, c6] <;> omega, hX _ _⟩
      simp only [c6, e1, e30, e31, e32, e3, go_sem, Hold.p, HoldK.k, HoldL.K, HoldL.body, Nat.reduceBEq, Nat.reduceAdd, List.getElem?_cons_zero, List.getElem?_cons_succ, Option.bind_some, List.map_cons, List.map_nil, Nat.zero_add, if_true, List.getD_cons_zero, List.getD_cons_succ, List.contains_cons, List.contains_nil, Nat.reduceBEq, Bool.or_true, Bool.true_or, Bool.or_false, Bool.false_or, Bool.not_true, Bool.not_false, true_and, and_true]
      refine guard_of (fun c7 => ?_) (fun c7 => ?_)
      case' refine_1 => simp only [c6, c7, e1, e30, e31, e32, e3, go_sem, Hold.p, HoldK.k, HoldL.K, HoldL.body, Nat.reduceBEq, Nat.reduceAdd, List.getElem?_cons_zero, List.getElem?_cons_succ, Option.bind_some, List.map_cons, List.map_nil, Nat.zero_add, if_true, List.getD_cons_zero, List.getD_cons_succ, List.contains_cons, List.contains_nil, Nat.reduceBEq, Bool.or_true, Bool.true_or, Bool.or_false, Bool.false_or, Bool.not_true, Bool.not_false, true_and, and_true]; cases hl : p.lost
      case' refine_1.true => simp only [go_sem, Hold.p, HoldK.k, HoldL.K, HoldL.body, Nat.reduceBEq, Nat.reduceAdd, List.getElem?_cons_zero, List.getElem?_cons_succ, Option.bind_some, List.map_cons, List.map_nil, Nat.zero_add, if_true, List.getD_cons_zero, List.getD_cons_succ, List.contains_cons, List.contains_nil, Nat.reduceBEq, Bool.or_true, Bool.true_or, Bool.or_false, Bool.false_or, Bool.not_true, Bool.not_false, true_and, and_true]; exact ⟨by simp [hno, c7, hl], hX _ _⟩
      case' refine_1.false => simp only [e1, e30, e31, e32, e3, go_sem, Hold.p, HoldK.k, HoldL.K, HoldL.body, Nat.reduceBEq, Nat.reduceAdd, List.getElem?_cons_zero, List.getElem?_cons_succ, Option.bind_some, List.map_cons, List.map_nil, Nat.zero_add, if_true, List.getD_cons_zero, List.getD_cons_succ, List.contains_cons, List.contains_nil, Nat.reduceBEq, Bool.or_true, Bool.true_or, Bool.or_false, Bool.false_or, Bool.not_true, Bool.not_false, true_and, and_true]
      case' refine_2 => simp only [Bool.not_true] at c7; simp only [c6, c7, e1, e30, e31, e32, e3, go_sem, Hold.p, HoldK.k, HoldL.K, HoldL.body, Nat.reduceBEq, Nat.reduceAdd, List.getElem?_cons_zero, List.getElem?_cons_succ, Option.bind_some, List.map_cons, List.map_nil, Nat.zero_add, if_true, List.getD_cons_zero, List.getD_cons_succ, List.contains_cons, List.contains_nil, Nat.reduceBEq, Bool.or_true, Bool.true_or, Bool.or_false, Bool.false_or, Bool.not_true, Bool.not_false, true_and, and_true]
      all_goals
        simp at c1 c2 c3 c4 c5 c6
        refine ⟨_, ?_, k + 1, p.to, rfl, by omega, ?_, rfl, ?_, hE.trans (((Ext.refl _).push _).set _ (Nat.le_refl _) _)⟩
        · omega
        · exact wr64_succ k (by omega)
        · rw [hno]; simp [c1, c2, c3, c4, c5, c6, c7, *] <;> (intro; omega)
    · simp only [e1, e30, e31, e32, e3, hbox, go_sem, Hold.p, HoldK.k, HoldL.K, HoldL.body, Nat.reduceBEq, Nat.reduceAdd, List.getElem?_cons_zero, List.getElem?_cons_succ, Option.bind_some, List.map_cons, List.map_nil, Nat.zero_add, if_true, List.getD_cons_zero, List.getD_cons_succ, List.contains_cons, List.contains_nil, Nat.reduceBEq, Bool.or_true, Bool.true_or, Bool.or_false, Bool.false_or, Bool.not_true, Bool.not_false, true_and, and_true]
      have hkn : k = ps.length := by omega
      subst hkn
      refine ⟨?_, hE0.trans hE⟩
      rw [hrel, List.drop_length, okPs]
end Go.Proofs.Ytecljenjlncfhaa

namespace Go.Proofs.Ytecljenjlncfhaa
open Go Go.IW

set_option maxRecDepth 20000 in
theorem l01In_c (h : IH) (n lo hi : Int) :
    ICalls Try.prog 77 [.int .i64 n, .int .i64 lo, .int .i64 hi] h fun r h' => r = .bool (decide (lo ≤ n) && decide (n ≤ hi)) ∧ h' = h := by
  refine icalls (.of ok77) (Nat.le_of_ble_eq_true rfl) ?_
  unfold c77
  simp only [go_sem, Hold.p, HoldK.k, HoldL.K, HoldL.body, Nat.reduceBEq, Nat.reduceAdd, List.getElem?_cons_zero, List.getElem?_cons_succ, Option.bind_some, List.map_cons, List.map_nil, Nat.zero_add, if_true, List.getD_cons_zero, List.getD_cons_succ, List.contains_cons, List.contains_nil, Nat.reduceBEq, Bool.or_true, Bool.true_or, Bool.or_false, Bool.false_or, Bool.not_true, Bool.not_false, true_and, and_true]
  refine guard_of (fun hb => ?_) (fun hb => ?_)
  · simp only [hb, go_sem, Hold.p, HoldK.k, HoldL.K, HoldL.body, Nat.reduceBEq, Nat.reduceAdd, List.getElem?_cons_zero, List.getElem?_cons_succ, Option.bind_some, List.map_cons, List.map_nil, Nat.zero_add, if_true, List.getD_cons_zero, List.getD_cons_succ, List.contains_cons, List.contains_nil, Nat.reduceBEq, Bool.or_true, Bool.true_or, Bool.or_false, Bool.false_or, Bool.not_true, Bool.not_false, true_and, and_true]
    simp at hb; simp [hb]
  · simp only [hb, go_sem, Hold.p, HoldK.k, HoldL.K, HoldL.body, Nat.reduceBEq, Nat.reduceAdd, List.getElem?_cons_zero, List.getElem?_cons_succ, Option.bind_some, List.map_cons, List.map_nil, Nat.zero_add, if_true, List.getD_cons_zero, List.getD_cons_succ, List.contains_cons, List.contains_nil, Nat.reduceBEq, Bool.or_true, Bool.true_or, Bool.or_false, Bool.false_or, Bool.not_true, Bool.not_false, true_and, and_true]
    simp at hb; simp [hb]

set_option maxRecDepth 20000 in
theorem szPieceS_c (h : IH) (v : IV) (rs : List (List IV)) (left : Int) (hs : SlR h 6 v rs) (hl : 0 ≤ left ∧ left ≤ 1048576) (hm : rs.length ≤ maxLen) :
    ICalls Try.prog 66 [v, .int .i64 left] h fun r h' => r = .int .i64 (if left < rs.length then -1 else left - rs.length) ∧ h' = h := by
  refine icalls (.of ok66) (Nat.le_of_ble_eq_true rfl) ?_
  unfold c66
  have hv1 := hs.one
  have hlen := hs.lenF
  have hw : wr .i64 (left - rs.length) = left - rs.length := wr64 _ (by unfold maxLen at hm; omega)
  simp only [hv1, hlen, hw, go_sem, Hold.p, HoldK.k, HoldL.K, HoldL.body, Nat.reduceBEq, Nat.reduceAdd, List.getElem?_cons_zero, List.getElem?_cons_succ, Option.bind_some, List.map_cons, List.map_nil, Nat.zero_add, if_true, List.getD_cons_zero, List.getD_cons_succ, List.contains_cons, List.contains_nil, Nat.reduceBEq, Bool.or_true, Bool.true_or, Bool.or_false, Bool.false_or, Bool.not_true, Bool.not_false, true_and, and_true]
  refine test_dec (fun hb => ?_) (fun hb => ?_)
  · simp only [hv1, hlen, hw, go_sem, Hold.p, HoldK.k, HoldL.K, HoldL.body, Nat.reduceBEq, Nat.reduceAdd, List.getElem?_cons_zero, List.getElem?_cons_succ, Option.bind_some, List.map_cons, List.map_nil, Nat.zero_add, if_true, List.getD_cons_zero, List.getD_cons_succ, List.contains_cons, List.contains_nil, Nat.reduceBEq, Bool.or_true, Bool.true_or, Bool.or_false, Bool.false_or, Bool.not_true, Bool.not_false, true_and, and_true]
    rw [if_pos (by omega)]
  · simp only [hv1, hlen, hw, go_sem, Hold.p, HoldK.k, HoldL.K, HoldL.body, Nat.reduceBEq, Nat.reduceAdd, List.getElem?_cons_zero, List.getElem?_cons_succ, Option.bind_some, List.map_cons, List.map_nil, Nat.zero_add, if_true, List.getD_cons_zero, List.getD_cons_succ, List.contains_cons, List.contains_nil, Nat.reduceBEq, Bool.or_true, Bool.true_or, Bool.or_false, Bool.false_or, Bool.not_true, Bool.not_false, true_and, and_true]
    rw [if_neg (by omega)]

set_option maxRecDepth 20000 in
theorem szBoard_c (h : IH) (v : IV) (una nxt : Int) (rs : List (List IV)) (left : Int) (hs : SlR h 6 v rs) (hl : 0 ≤ left ∧ left ≤ 1048576) (hm : rs.length ≤ maxLen) :
    ICalls Try.prog 24 [.agg [.int .i64 una, .int .i64 nxt, v], .int .i64 left] h fun r h' => r = .int .i64 (if left < rs.length then -1 else left - rs.length) ∧ Ext h h' := by
  refine icalls (.of ok24) (Nat.le_of_ble_eq_true rfl) ?_
  unfold c24
  have hv1 := hs.one
  have hlen := hs.lenF
  have hE : Ext h (h.push (IObj.rows [[IV.int .i64 una, .int .i64 nxt, v]] 35 3 false)) := (Ext.refl _).push _
  simp only [hv1, hlen, go_sem, Hold.p, HoldK.k, HoldL.K, HoldL.body, Nat.reduceBEq, Nat.reduceAdd, List.getElem?_cons_zero, List.getElem?_cons_succ, Option.bind_some, List.map_cons, List.map_nil, Nat.zero_add, if_true, List.getD_cons_zero, List.getD_cons_succ, List.contains_cons, List.contains_nil, Nat.reduceBEq, Bool.or_true, Bool.true_or, Bool.or_false, Bool.false_or, Bool.not_true, Bool.not_false, true_and, and_true]
  refine callA_of (szPieceS_c _ v rs left (hs.ext hE) hl hm) ?_
  rintro r h' ⟨rfl, rfl⟩
  by_cases hb : left < rs.length
  · rw [if_pos hb]
    have hn : decide ((-1 : Int) < 0) = true := rfl
    simp only [hn, go_sem, Hold.p, HoldK.k, HoldL.K, HoldL.body, Nat.reduceBEq, Nat.reduceAdd, List.getElem?_cons_zero, List.getElem?_cons_succ, Option.bind_some, List.map_cons, List.map_nil, Nat.zero_add, if_true, List.getD_cons_zero, List.getD_cons_succ, List.contains_cons, List.contains_nil, Nat.reduceBEq, Bool.or_true, Bool.true_or, Bool.or_false, Bool.false_or, Bool.not_true, Bool.not_false, true_and, and_true]
    exact hE
  · rw [if_neg hb]
    have hn : decide (left - (rs.length : Int) < 0) = false := by simp; omega
    simp only [hn, go_sem, Hold.p, HoldK.k, HoldL.K, HoldL.body, Nat.reduceBEq, Nat.reduceAdd, List.getElem?_cons_zero, List.getElem?_cons_succ, Option.bind_some, List.map_cons, List.map_nil, Nat.zero_add, if_true, List.getD_cons_zero, List.getD_cons_succ, List.contains_cons, List.contains_nil, Nat.reduceBEq, Bool.or_true, Bool.true_or, Bool.or_false, Bool.false_or, Bool.not_true, Bool.not_false, true_and, and_true]
    exact hE

set_option maxRecDepth 20000 in
theorem toPiece_c (h : IH) (p : Piece) : ICalls Try.prog 96 [.agg p.row] h fun r h' => r = .agg p.row ∧ Ext h h' := by
  refine icalls (.of ok96) (Nat.le_of_ble_eq_true rfl) ?_
  unfold c96
  unfold Piece.row
  simp only [go_sem, Hold.p, HoldK.k, HoldL.K, HoldL.body, Nat.reduceBEq, Nat.reduceAdd, List.getElem?_cons_zero, List.getElem?_cons_succ, Option.bind_some, List.map_cons, List.map_nil, Nat.zero_add, if_true, List.getD_cons_zero, List.getD_cons_succ, List.contains_cons, List.contains_nil, Nat.reduceBEq, Bool.or_true, Bool.true_or, Bool.or_false, Bool.false_or, Bool.not_true, Bool.not_false, true_and, and_true, rowA_whole, push_n, set_n, push_obj, set_obj, set_push, set_push_ne, set_set, Nat.add_assoc, Nat.left_eq_add, Nat.add_eq_left, Nat.add_left_cancel_iff, Nat.reduceEqDiff, stO_1s, stO_ws, boxA_s, one_bool, one_int, one_str, one_ptr, one_nilptr, one_slice, one_eslice, one_nilslice, one_func, one_iface, one_niliface, List.all_cons, List.all_nil, List.length_cons, List.length_nil, Nat.reduceLT, Nat.reduceEqDiff, Nat.reduceLeDiff, Bool.and_true, Nat.one_ne_zero, Nat.succ_ne_zero, reduceIte, if_false, List.getElem?_cons_zero, List.set_cons_zero, List.set_cons_succ]
  exact ((Ext.refl _).push _ |>.push _ |>.push _)

def zPiece : List IV := [.int .i64 0, .int .i64 0, .int .i64 0, .int .i64 0, .bool false, .bool false]

set_option maxRecDepth 20000 in
theorem toPieceS_c (h : IH) (v : IV) (ps : List Piece) (hs : SlR h 6 v (ps.map Piece.row)) (hm : ps.length ≤ 1048576) :
    ICalls Try.prog 68 [v] h fun r h' => Own h.n h'.n h' 113 6 r (ps.map Piece.row) ∧ Ext h h' := by
  refine icalls (.of ok68) (Nat.le_of_ble_eq_true rfl) ?_
  unfold c68
  have hv1 := hs.one
  have hlen := hs.lenF
  rw [List.length_map] at hlen
  simp only [hv1, hlen, go_sem, Hold.p, HoldK.k, HoldL.K, HoldL.body, Nat.reduceBEq, Nat.reduceAdd, List.getElem?_cons_zero, List.getElem?_cons_succ, Option.bind_some, List.map_cons, List.map_nil, Nat.zero_add, if_true, List.getD_cons_zero, List.getD_cons_succ, List.contains_cons, List.contains_nil, Nat.reduceBEq, Bool.or_true, Bool.true_or, Bool.or_false, Bool.false_or, Bool.not_true, Bool.not_false, true_and, and_true]
  by_cases h0 : ps.length = 0
  · have hps : ps = [] := List.length_eq_zero_iff.1 h0
    subst hps
    refine mksA_0 ?_
    simp only [hv1, hlen, go_sem, Hold.p, HoldK.k, HoldL.K, HoldL.body, Nat.reduceBEq, Nat.reduceAdd, List.getElem?_cons_zero, List.getElem?_cons_succ, Option.bind_some, List.map_cons, List.map_nil, Nat.zero_add, if_true, List.getD_cons_zero, List.getD_cons_succ, List.contains_cons, List.contains_nil, Nat.reduceBEq, Bool.or_true, Bool.true_or, Bool.or_false, Bool.false_or, Bool.not_true, Bool.not_false, true_and, and_true]
    refine loop_at (fun n e h' => n = 0 ∧ h' = h ∧ e 0 = v ∧ e 3 = .eslice true ∧ e 4 = .int .i64 0) 0 ?_ ?_
    · simp only [go_sem, Hold.p, HoldK.k, HoldL.K, HoldL.body, Nat.reduceBEq, Nat.reduceAdd, List.getElem?_cons_zero, List.getElem?_cons_succ, Option.bind_some, List.map_cons, List.map_nil, Nat.zero_add, if_true, List.getD_cons_zero, List.getD_cons_succ, List.contains_cons, List.contains_nil, Nat.reduceBEq, Bool.or_true, Bool.true_or, Bool.or_false, Bool.false_or, Bool.not_true, Bool.not_false, true_and, and_true]
    · rintro n e h' ⟨rfl, rfl, e0, e3, e4⟩
      simp only [e0, e3, e4, hlen, go_sem, Hold.p, HoldK.k, HoldL.K, HoldL.body, Nat.reduceBEq, Nat.reduceAdd, List.getElem?_cons_zero, List.getElem?_cons_succ, Option.bind_some, List.map_cons, List.map_nil, Nat.zero_add, if_true, List.getD_cons_zero, List.getD_cons_succ, List.contains_cons, List.contains_nil, Nat.reduceBEq, Bool.or_true, Bool.true_or, Bool.or_false, Bool.false_or, Bool.not_true, Bool.not_false, true_and, and_true]
      refine test_dec (fun hb => absurd hb (by simp)) (fun _ => ?_)
      simp only [e0, e3, e4, hlen, go_sem, Hold.p, HoldK.k, HoldL.K, HoldL.body, Nat.reduceBEq, Nat.reduceAdd, List.getElem?_cons_zero, List.getElem?_cons_succ, Option.bind_some, List.map_cons, List.map_nil, Nat.zero_add, if_true, List.getD_cons_zero, List.getD_cons_succ, List.contains_cons, List.contains_nil, Nat.reduceBEq, Bool.or_true, Bool.true_or, Bool.or_false, Bool.false_or, Bool.not_true, Bool.not_false, true_and, and_true]
      exact ⟨.empty, Ext.refl _⟩
  · refine mksA_of (by omega) (by omega) (by omega) ?_
    simp only [go_sem, Hold.p, HoldK.k, HoldL.K, HoldL.body, Nat.reduceBEq, Nat.reduceAdd, List.getElem?_cons_zero, List.getElem?_cons_succ, Option.bind_some, List.map_cons, List.map_nil, Nat.zero_add, if_true, List.getD_cons_zero, List.getD_cons_succ, List.contains_cons, List.contains_nil, Nat.reduceBEq, Bool.or_true, Bool.true_or, Bool.or_false, Bool.false_or, Bool.not_true, Bool.not_false, true_and, and_true]
    have hE0 : Ext h (h.push (IObj.rows (List.replicate ps.length zPiece) 113 6 false)) := (Ext.refl _).push _
    refine loop_at (fun n e h' => ∃ k, n = ps.length - k ∧ k ≤ ps.length ∧ e 0 = v ∧ e 3 = .slice h.n 0 ps.length ∧ e 4 = .int .i64 k ∧ Ext h h' ∧ h.n < h'.n ∧
      h'.obj h.n = .rows ((ps.map Piece.row).take k ++ List.replicate (ps.length - k) zPiece) 113 6 false) ps.length ?_ ?_
    · refine ⟨0, by omega, by omega, ?_⟩
      simp only [go_sem, Hold.p, HoldK.k, HoldL.K, HoldL.body, Nat.reduceBEq, Nat.reduceAdd, List.getElem?_cons_zero, List.getElem?_cons_succ, Option.bind_some, List.map_cons, List.map_nil, Nat.zero_add, if_true, List.getD_cons_zero, List.getD_cons_succ, List.contains_cons, List.contains_nil, Nat.reduceBEq, Bool.or_true, Bool.true_or, Bool.or_false, Bool.false_or, Bool.not_true, Bool.not_false, true_and, and_true, rowA_whole, push_n, set_n, push_obj, set_obj, set_push, set_push_ne, set_set, Nat.add_assoc, Nat.left_eq_add, Nat.add_eq_left, Nat.add_left_cancel_iff, Nat.reduceEqDiff, stO_1s, stO_ws, boxA_s, one_bool, one_int, one_str, one_ptr, one_nilptr, one_slice, one_eslice, one_nilslice, one_func, one_iface, one_niliface, List.all_cons, List.all_nil, List.length_cons, List.length_nil, Nat.reduceLT, Nat.reduceEqDiff, Nat.reduceLeDiff, Bool.and_true, Nat.one_ne_zero, Nat.succ_ne_zero, reduceIte, if_false, List.getElem?_cons_zero, List.set_cons_zero, List.set_cons_succ]
      exact ⟨rfl, hE0, by omega, by simp [zPiece]⟩
    · rintro n e h' ⟨k, rfl, hk, e0, e3, e4, hE, hlt, hobj⟩
      simp only [e0, e3, e4, hlen, go_sem, Hold.p, HoldK.k, HoldL.K, HoldL.body, Nat.reduceBEq, Nat.reduceAdd, List.getElem?_cons_zero, List.getElem?_cons_succ, Option.bind_some, List.map_cons, List.map_nil, Nat.zero_add, if_true, List.getD_cons_zero, List.getD_cons_succ, List.contains_cons, List.contains_nil, Nat.reduceBEq, Bool.or_true, Bool.true_or, Bool.or_false, Bool.false_or, Bool.not_true, Bool.not_false, true_and, and_true]
      refine test_dec (fun hb => ?_) (fun hb => ?_)
      · simp only [e0, e3, e4, hlen, go_sem, Hold.p, HoldK.k, HoldL.K, HoldL.body, Nat.reduceBEq, Nat.reduceAdd, List.getElem?_cons_zero, List.getElem?_cons_succ, Option.bind_some, List.map_cons, List.map_nil, Nat.zero_add, if_true, List.getD_cons_zero, List.getD_cons_succ, List.contains_cons, List.contains_nil, Nat.reduceBEq, Bool.or_true, Bool.true_or, Bool.or_false, Bool.false_or, Bool.not_true, Bool.not_false, true_and, and_true]
        have hlt' : k < ps.length := by omega
        have hkp : ps[k]? = some ps[k] := List.getElem?_eq_getElem hlt'
        generalize ps[k] = p at hkp
        have hkr : (ps.map Piece.row)[k]? = some p.row := by rw [List.getElem?_map, hkp]; rfl
        obtain ⟨l, j, hia, hll, hrow⟩ := (hs.ext hE).at (m := k) (row := p.row) hkr .i64
        have hrl : p.row.length = 6 := rfl
        refine got_of hia ?_
        simp only [hrow, rowA_whole _ _ hrl, e0, e3, e4, go_sem, Hold.p, HoldK.k, HoldL.K, HoldL.body, Nat.reduceBEq, Nat.reduceAdd, List.getElem?_cons_zero, List.getElem?_cons_succ, Option.bind_some, List.map_cons, List.map_nil, Nat.zero_add, if_true, List.getD_cons_zero, List.getD_cons_succ, List.contains_cons, List.contains_nil, Nat.reduceBEq, Bool.or_true, Bool.true_or, Bool.or_false, Bool.false_or, Bool.not_true, Bool.not_false, true_and, and_true]
        refine callA_of (toPiece_c _ p) ?_
        rintro r h2 ⟨rfl, hE2⟩
        have hobj2 := (hE2.obj h.n hlt).trans hobj
        have hlen2 : ((ps.map Piece.row).take k ++ List.replicate (ps.length - k) zPiece).length = ps.length := by simp; omega
        have hia2 : iadrF h2 6 (.slice h.n 0 ps.length) (.int .i64 k) = some (.ptr h.n k 0) := by
          rw [iadrF_of _ (by omega) (by omega) (by rw [size_eq, hobj2]; rfl)]; simp
        simp only [hia2, hobj2, go_sem, Hold.p, HoldK.k, HoldL.K, HoldL.body, Nat.reduceBEq, Nat.reduceAdd, List.getElem?_cons_zero, List.getElem?_cons_succ, Option.bind_some, List.map_cons, List.map_nil, Nat.zero_add, if_true, List.getD_cons_zero, List.getD_cons_succ, List.contains_cons, List.contains_nil, Nat.reduceBEq, Bool.or_true, Bool.true_or, Bool.or_false, Bool.false_or, Bool.not_true, Bool.not_false, true_and, and_true]
        have hw : wrt zPiece 0 p.row = p.row := rfl
        refine stO_of (row := zPiece) (fill_at _ _ (by simp) hlt') hrl (by simp [zPiece]) (by simp [Piece.row, IV.one]) ?_
        rw [hw, fill_set _ _ _ (by simp) hkr]
        simp only [hia2, hobj2, e0, e3, e4, go_sem, Hold.p, HoldK.k, HoldL.K, HoldL.body, Nat.reduceBEq, Nat.reduceAdd, List.getElem?_cons_zero, List.getElem?_cons_succ, Option.bind_some, List.map_cons, List.map_nil, Nat.zero_add, if_true, List.getD_cons_zero, List.getD_cons_succ, List.contains_cons, List.contains_nil, Nat.reduceBEq, Bool.or_true, Bool.true_or, Bool.or_false, Bool.false_or, Bool.not_true, Bool.not_false, true_and, and_true]
        refine ⟨_, ?_, k + 1, rfl, by omega, wr64_succ k (by omega), (hE.trans hE2).set _ (Nat.le_refl _) _, ?_, ?_⟩
        · omega
        · have := hE2.le; omega
        · simp [IH.set]
      · simp only [e0, e3, e4, hlen, go_sem, Hold.p, HoldK.k, HoldL.K, HoldL.body, Nat.reduceBEq, Nat.reduceAdd, List.getElem?_cons_zero, List.getElem?_cons_succ, Option.bind_some, List.map_cons, List.map_nil, Nat.zero_add, if_true, List.getD_cons_zero, List.getD_cons_succ, List.contains_cons, List.contains_nil, Nat.reduceBEq, Bool.or_true, Bool.true_or, Bool.or_false, Bool.false_or, Bool.not_true, Bool.not_false, true_and, and_true]
        obtain rfl : k = ps.length := by omega
        refine ⟨.inr ⟨h.n, ?_, ?_, Nat.le_refl _, hlt, Nat.le_refl _, ?_⟩, hE⟩
        · intro hx; exact h0 (by simpa using congrArg List.length hx)
        · simp
        · simpa [List.take_of_length_le] using hobj

set_option maxRecDepth 20000 in
theorem toBoard_c (h : IH) (v : IV) (una nxt : Int) (ps : List Piece) (hs : SlR h 6 v (ps.map Piece.row)) (hm : ps.length ≤ 1048576) :
    ICalls Try.prog 26 [.agg [.int .i64 una, .int .i64 nxt, v]] h fun r h' => ∃ v', r = .agg [.int .i64 una, .int .i64 nxt, v'] ∧ Own h.n h'.n h' 113 6 v' (ps.map Piece.row) ∧ Ext h h' := by
  refine icalls (.of ok26) (Nat.le_of_ble_eq_true rfl) ?_
  unfold c26
  have hv1 := hs.one
  simp only [hv1, go_sem, Hold.p, HoldK.k, HoldL.K, HoldL.body, Nat.reduceBEq, Nat.reduceAdd, List.getElem?_cons_zero, List.getElem?_cons_succ, Option.bind_some, List.map_cons, List.map_nil, Nat.zero_add, if_true, List.getD_cons_zero, List.getD_cons_succ, List.contains_cons, List.contains_nil, Nat.reduceBEq, Bool.or_true, Bool.true_or, Bool.or_false, Bool.false_or, Bool.not_true, Bool.not_false, true_and, and_true, rowA_whole, push_n, set_n, push_obj, set_obj, set_push, set_push_ne, set_set, Nat.add_assoc, Nat.left_eq_add, Nat.add_eq_left, Nat.add_left_cancel_iff, Nat.reduceEqDiff, stO_1s, stO_ws, boxA_s, one_bool, one_int, one_str, one_ptr, one_nilptr, one_slice, one_eslice, one_nilslice, one_func, one_iface, one_niliface, List.all_cons, List.all_nil, List.length_cons, List.length_nil, Nat.reduceLT, Nat.reduceEqDiff, Nat.reduceLeDiff, Bool.and_true, Nat.one_ne_zero, Nat.succ_ne_zero, reduceIte, if_false, List.getElem?_cons_zero, List.set_cons_zero, List.set_cons_succ]
  have hE0 : ∀ a b c, Ext h (((h.push a).push b).push c) := fun a b c => (Ext.refl _).push _ |>.push _ |>.push _
  refine callA_of (toPieceS_c _ v ps (hs.ext (hE0 _ _ _)) hm) ?_
  rintro v' h' ⟨ho, hE⟩
  have b2 := hE.obj (h.n + 2) (by simp only [push_n]; omega)
  have b1 := hE.obj (h.n + 1) (by simp only [push_n]; omega)
  simp [push_obj, push_n] at b1 b2
  have ho1 := ho.one
  have hoc := ho.sl.cells
  simp only [ho1, hoc, b1, b2, go_sem, Hold.p, HoldK.k, HoldL.K, HoldL.body, Nat.reduceBEq, Nat.reduceAdd, List.getElem?_cons_zero, List.getElem?_cons_succ, Option.bind_some, List.map_cons, List.map_nil, Nat.zero_add, if_true, List.getD_cons_zero, List.getD_cons_succ, List.contains_cons, List.contains_nil, Nat.reduceBEq, Bool.or_true, Bool.true_or, Bool.or_false, Bool.false_or, Bool.not_true, Bool.not_false, true_and, and_true, rowA_whole, push_n, set_n, push_obj, set_obj, set_push, set_push_ne, set_set, Nat.add_assoc, Nat.left_eq_add, Nat.add_eq_left, Nat.add_left_cancel_iff, Nat.reduceEqDiff, stO_1s, stO_ws, boxA_s, one_bool, one_int, one_str, one_ptr, one_nilptr, one_slice, one_eslice, one_nilslice, one_func, one_iface, one_niliface, List.all_cons, List.all_nil, List.length_cons, List.length_nil, Nat.reduceLT, Nat.reduceEqDiff, Nat.reduceLeDiff, Bool.and_true, Nat.one_ne_zero, Nat.succ_ne_zero, reduceIte, if_false, List.getElem?_cons_zero, List.set_cons_zero, List.set_cons_succ]
  have hl := hE.le
  simp only [push_n] at hl
  refine ⟨_, rfl, ((ho.set (m := h.n + 2) (.inl (by simp only [push_n]; omega)) _).set (m := h.n + 1) (.inl (by simp only [push_n]; omega)) _).wide (by simp only [push_n]; omega) (Nat.le_refl _) (Nat.le_refl _), ?_⟩
  exact (((hE0 _ _ _).trans hE).set _ (by omega) _).set _ (by omega) _
end Go.Proofs.Ytecljenjlncfhaa

namespace Go.Proofs.Ytecljenjlncfhaa
open Go Go.IW

def Piece.eq (p q : Piece) : Bool := decide (p.fr = q.fr) && decide (p.to = q.to) && decide (p.at_ = q.at_) && decide (p.times = q.times) && (p.sacked == q.sacked) && (p.lost == q.lost)

set_option maxRecDepth 20000 in
theorem eqPiece_c (h : IH) (p : Piece) : ICalls Try.prog 97 [.agg p.row, .agg p.row] h fun r h' => r = .bool true ∧ Ext h h' := by
  refine icalls (.of ok97) (Nat.le_of_ble_eq_true rfl) ?_
  unfold c97
  unfold Piece.row
  simp only [decide_true, bne_self_eq_false, beq_self_eq_true, go_sem, Hold.p, HoldK.k, HoldL.K, HoldL.body, Nat.reduceBEq, Nat.reduceAdd, List.getElem?_cons_zero, List.getElem?_cons_succ, Option.bind_some, List.map_cons, List.map_nil, Nat.zero_add, if_true, List.getD_cons_zero, List.getD_cons_succ, List.contains_cons, List.contains_nil, Nat.reduceBEq, Bool.or_true, Bool.true_or, Bool.or_false, Bool.false_or, Bool.not_true, Bool.not_false, true_and, and_true, rowA_whole, push_n, set_n, push_obj, set_obj, set_push, set_push_ne, set_set, Nat.add_assoc, Nat.left_eq_add, Nat.add_eq_left, Nat.add_left_cancel_iff, Nat.reduceEqDiff, stO_1s, stO_ws, boxA_s, one_bool, one_int, one_str, one_ptr, one_nilptr, one_slice, one_eslice, one_nilslice, one_func, one_iface, one_niliface, List.all_cons, List.all_nil, List.length_cons, List.length_nil, Nat.reduceLT, Nat.reduceEqDiff, Nat.reduceLeDiff, Bool.and_true, Nat.one_ne_zero, Nat.succ_ne_zero, reduceIte, if_false, List.getElem?_cons_zero, List.set_cons_zero, List.set_cons_succ]
  exact ((Ext.refl _).push _ |>.push _)

set_option maxRecDepth 20000 in
theorem eqPieceS_c (h : IH) (v w : IV) (ps : List Piece) (hv : SlR h 6 v (ps.map Piece.row)) (hw : SlR h 6 w (ps.map Piece.row)) (hm : ps.length ≤ 1048576) :
    ICalls Try.prog 71 [v, w] h fun r h' => r = .bool true ∧ Ext h h' := by
  refine icalls (.of ok71) (Nat.le_of_ble_eq_true rfl) ?_
  unfold c71
  have hlv := hv.lenF
  have hlw := hw.lenF
  rw [List.length_map] at hlv hlw
  simp only [hlv, hlw, decide_true, go_sem, Hold.p, HoldK.k, HoldL.K, HoldL.body, Nat.reduceBEq, Nat.reduceAdd, List.getElem?_cons_zero, List.getElem?_cons_succ, Option.bind_some, List.map_cons, List.map_nil, Nat.zero_add, if_true, List.getD_cons_zero, List.getD_cons_succ, List.contains_cons, List.contains_nil, Nat.reduceBEq, Bool.or_true, Bool.true_or, Bool.or_false, Bool.false_or, Bool.not_true, Bool.not_false, true_and, and_true]
  refine loop_at (fun n e h' => ∃ k, n = ps.length - k ∧ k ≤ ps.length ∧ e 0 = v ∧ e 1 = w ∧ e 5 = .int .i64 k ∧ Ext h h') ps.length ?_ ?_
  · refine ⟨0, by omega, by omega, ?_⟩
    simp only [go_sem, Hold.p, HoldK.k, HoldL.K, HoldL.body, Nat.reduceBEq, Nat.reduceAdd, List.getElem?_cons_zero, List.getElem?_cons_succ, Option.bind_some, List.map_cons, List.map_nil, Nat.zero_add, if_true, List.getD_cons_zero, List.getD_cons_succ, List.contains_cons, List.contains_nil, Nat.reduceBEq, Bool.or_true, Bool.true_or, Bool.or_false, Bool.false_or, Bool.not_true, Bool.not_false, true_and, and_true]
    exact ⟨rfl, Ext.refl _⟩
  · rintro n e h' ⟨k, rfl, hk, e0, e1, e5, hE⟩
    simp only [e0, e1, e5, hlv, go_sem, Hold.p, HoldK.k, HoldL.K, HoldL.body, Nat.reduceBEq, Nat.reduceAdd, List.getElem?_cons_zero, List.getElem?_cons_succ, Option.bind_some, List.map_cons, List.map_nil, Nat.zero_add, if_true, List.getD_cons_zero, List.getD_cons_succ, List.contains_cons, List.contains_nil, Nat.reduceBEq, Bool.or_true, Bool.true_or, Bool.or_false, Bool.false_or, Bool.not_true, Bool.not_false, true_and, and_true]
    refine test_dec (fun hb => ?_) (fun hb => ?_)
    · simp only [e0, e1, e5, hlv, go_sem, Hold.p, HoldK.k, HoldL.K, HoldL.body, Nat.reduceBEq, Nat.reduceAdd, List.getElem?_cons_zero, List.getElem?_cons_succ, Option.bind_some, List.map_cons, List.map_nil, Nat.zero_add, if_true, List.getD_cons_zero, List.getD_cons_succ, List.contains_cons, List.contains_nil, Nat.reduceBEq, Bool.or_true, Bool.true_or, Bool.or_false, Bool.false_or, Bool.not_true, Bool.not_false, true_and, and_true]
      have hlt' : k < ps.length := by omega
      have hkp : ps[k]? = some ps[k] := List.getElem?_eq_getElem hlt'
      generalize ps[k] = p at hkp
      have hkr : (ps.map Piece.row)[k]? = some p.row := by rw [List.getElem?_map, hkp]; rfl
      have hrl : p.row.length = 6 := rfl
      obtain ⟨l, j, hia, hll, hrow⟩ := (hv.ext hE).at (m := k) (row := p.row) hkr .i64
      obtain ⟨l2, j2, hia2, hll2, hrow2⟩ := (hw.ext hE).at (m := k) (row := p.row) hkr .i64
      refine got_of hia ?_
      simp only [hrow, rowA_whole _ _ hrl, e0, e1, e5, go_sem, Hold.p, HoldK.k, HoldL.K, HoldL.body, Nat.reduceBEq, Nat.reduceAdd, List.getElem?_cons_zero, List.getElem?_cons_succ, Option.bind_some, List.map_cons, List.map_nil, Nat.zero_add, if_true, List.getD_cons_zero, List.getD_cons_succ, List.contains_cons, List.contains_nil, Nat.reduceBEq, Bool.or_true, Bool.true_or, Bool.or_false, Bool.false_or, Bool.not_true, Bool.not_false, true_and, and_true]
      refine got_of hia2 ?_
      simp only [hrow2, rowA_whole _ _ hrl, e0, e1, e5, go_sem, Hold.p, HoldK.k, HoldL.K, HoldL.body, Nat.reduceBEq, Nat.reduceAdd, List.getElem?_cons_zero, List.getElem?_cons_succ, Option.bind_some, List.map_cons, List.map_nil, Nat.zero_add, if_true, List.getD_cons_zero, List.getD_cons_succ, List.contains_cons, List.contains_nil, Nat.reduceBEq, Bool.or_true, Bool.true_or, Bool.or_false, Bool.false_or, Bool.not_true, Bool.not_false, true_and, and_true]
      refine callA_of (eqPiece_c _ p) ?_
      rintro r h2 ⟨rfl, hE2⟩
      simp only [e0, e1, e5, go_sem, Hold.p, HoldK.k, HoldL.K, HoldL.body, Nat.reduceBEq, Nat.reduceAdd, List.getElem?_cons_zero, List.getElem?_cons_succ, Option.bind_some, List.map_cons, List.map_nil, Nat.zero_add, if_true, List.getD_cons_zero, List.getD_cons_succ, List.contains_cons, List.contains_nil, Nat.reduceBEq, Bool.or_true, Bool.true_or, Bool.or_false, Bool.false_or, Bool.not_true, Bool.not_false, true_and, and_true]
      refine ⟨_, ?_, k + 1, rfl, by omega, wr64_succ k (by omega), hE.trans hE2⟩
      omega
    · simp only [e0, e1, e5, go_sem, Hold.p, HoldK.k, HoldL.K, HoldL.body, Nat.reduceBEq, Nat.reduceAdd, List.getElem?_cons_zero, List.getElem?_cons_succ, Option.bind_some, List.map_cons, List.map_nil, Nat.zero_add, if_true, List.getD_cons_zero, List.getD_cons_succ, List.contains_cons, List.contains_nil, Nat.reduceBEq, Bool.or_true, Bool.true_or, Bool.or_false, Bool.false_or, Bool.not_true, Bool.not_false, true_and, and_true]
      exact hE

set_option maxRecDepth 20000 in
theorem eqBoard_c (h : IH) (v w : IV) (una nxt : Int) (ps : List Piece) (hv : SlR h 6 v (ps.map Piece.row)) (hw : SlR h 6 w (ps.map Piece.row)) (hm : ps.length ≤ 1048576) :
    ICalls Try.prog 28 [.agg [.int .i64 una, .int .i64 nxt, v], .agg [.int .i64 una, .int .i64 nxt, w]] h fun r h' => r = .bool true ∧ Ext h h' := by
  refine icalls (.of ok28) (Nat.le_of_ble_eq_true rfl) ?_
  unfold c28
  have hv1 := hv.one
  have hw1 := hw.one
  simp only [hv1, hw1, decide_true, go_sem, Hold.p, HoldK.k, HoldL.K, HoldL.body, Nat.reduceBEq, Nat.reduceAdd, List.getElem?_cons_zero, List.getElem?_cons_succ, Option.bind_some, List.map_cons, List.map_nil, Nat.zero_add, if_true, List.getD_cons_zero, List.getD_cons_succ, List.contains_cons, List.contains_nil, Nat.reduceBEq, Bool.or_true, Bool.true_or, Bool.or_false, Bool.false_or, Bool.not_true, Bool.not_false, true_and, and_true, rowA_whole, push_n, set_n, push_obj, set_obj, set_push, set_push_ne, set_set, Nat.add_assoc, Nat.left_eq_add, Nat.add_eq_left, Nat.add_left_cancel_iff, Nat.reduceEqDiff, stO_1s, stO_ws, boxA_s, one_bool, one_int, one_str, one_ptr, one_nilptr, one_slice, one_eslice, one_nilslice, one_func, one_iface, one_niliface, List.all_cons, List.all_nil, List.length_cons, List.length_nil, Nat.reduceLT, Nat.reduceEqDiff, Nat.reduceLeDiff, Bool.and_true, Nat.one_ne_zero, Nat.succ_ne_zero, reduceIte, if_false, List.getElem?_cons_zero, List.set_cons_zero, List.set_cons_succ]
  have hE : ∀ a b, Ext h ((h.push a).push b) := fun a b => (Ext.refl _).push _ |>.push _
  refine callA_of (eqPieceS_c _ v w ps (hv.ext (hE _ _)) (hw.ext (hE _ _)) hm) ?_
  rintro r h' ⟨rfl, hE2⟩
  simp only [go_sem, Hold.p, HoldK.k, HoldL.K, HoldL.body, Nat.reduceBEq, Nat.reduceAdd, List.getElem?_cons_zero, List.getElem?_cons_succ, Option.bind_some, List.map_cons, List.map_nil, Nat.zero_add, if_true, List.getD_cons_zero, List.getD_cons_succ, List.contains_cons, List.contains_nil, Nat.reduceBEq, Bool.or_true, Bool.true_or, Bool.or_false, Bool.false_or, Bool.not_true, Bool.not_false, true_and, and_true, rowA_whole, push_n, set_n, push_obj, set_obj, set_push, set_push_ne, set_set, Nat.add_assoc, Nat.left_eq_add, Nat.add_eq_left, Nat.add_left_cancel_iff, Nat.reduceEqDiff, stO_1s, stO_ws, boxA_s, one_bool, one_int, one_str, one_ptr, one_nilptr, one_slice, one_eslice, one_nilslice, one_func, one_iface, one_niliface, List.all_cons, List.all_nil, List.length_cons, List.length_nil, Nat.reduceLT, Nat.reduceEqDiff, Nat.reduceLeDiff, Bool.and_true, Nat.one_ne_zero, Nat.succ_ne_zero, reduceIte, if_false, List.getElem?_cons_zero, List.set_cons_zero, List.set_cons_succ]
  exact (hE _ _).trans hE2

/-- The bytes on the way. -/
def pipeOf : List Piece → Int
  | [] => 0
  | p :: r => (if !p.sacked && !p.lost then p.to - p.fr else 0) + pipeOf r
theorem pipeOf_append (a b : List Piece) : pipeOf (a ++ b) = pipeOf a + pipeOf b := by
  induction a with
  | nil => simp [pipeOf]
  | cons p r ih => simp [pipeOf, ih]; omega

/-- A board that is right: its pieces lie in order between una and nxt. -/
theorem okPs_bound {nxt : Int} : ∀ {at_ : Int} {ps : List Piece}, okPs nxt at_ ps = true → at_ ≤ nxt ∧ (∀ p ∈ ps, at_ ≤ p.fr ∧ p.fr < p.to ∧ p.to ≤ nxt) ∧ 0 ≤ pipeOf ps ∧ pipeOf ps ≤ nxt - at_
  | at_, [], h => by simp [okPs] at h; subst h; simp [pipeOf]
  | at_, p :: r, h => by
    simp [okPs] at h
    obtain ⟨h1, h2⟩ := h
    obtain ⟨i1, i2, i3, i4⟩ := okPs_bound h2
    refine ⟨by omega, ?_, ?_, ?_⟩
    · intro q hq
      rcases List.mem_cons.1 hq with rfl | hq
      · omega
      · have := i2 q hq; omega
    · simp only [pipeOf]; split <;> omega
    · simp only [pipeOf]; split <;> omega

end Go.Proofs.Ytecljenjlncfhaa

namespace Go.Proofs.Ytecljenjlncfhaa
open Go Go.IW

theorem pipeOf_nn : ∀ {ps : List Piece}, (∀ p ∈ ps, p.fr < p.to) → 0 ≤ pipeOf ps
  | [], _ => by simp [pipeOf]
  | p :: r, h => by
    have := pipeOf_nn (ps := r) (fun q hq => h q (by simp [hq]))
    have := h p (by simp)
    simp only [pipeOf]; split <;> omega
theorem pipeOf_take {nxt at_ : Int} {ps : List Piece} (h : okPs nxt at_ ps = true) (k : Nat) : 0 ≤ pipeOf (ps.take k) ∧ pipeOf (ps.take k) ≤ nxt - at_ := by
  obtain ⟨h1, h2, h3, h4⟩ := okPs_bound h
  have e : pipeOf ps = pipeOf (ps.take k) + pipeOf (ps.drop k) := by rw [← pipeOf_append, List.take_append_drop]
  have a := pipeOf_nn (ps := ps.take k) (fun q hq => (h2 q (List.mem_of_mem_take hq)).2.1)
  have b := pipeOf_nn (ps := ps.drop k) (fun q hq => (h2 q (List.mem_of_mem_drop hq)).2.1)
  omega
theorem pipeOf_succ {ps : List Piece} {k : Nat} {p : Piece} (h : ps[k]? = some p) : pipeOf (ps.take (k + 1)) = pipeOf (ps.take k) + (if !p.sacked && !p.lost then p.to - p.fr else 0) := by
  rw [List.take_add_one, h, pipeOf_append]; simp [pipeOf]
theorem okB_un {una nxt : Int} {ps : List Piece} (h : okB una nxt ps = true) : 0 ≤ una ∧ una ≤ nxt ∧ nxt ≤ 1099511627776 ∧ ps.length ≤ 4096 ∧ okPs nxt una ps = true := by
  simpa [okB, and_assoc] using h

set_option maxRecDepth 20000 in
theorem pipe_c (h : IH) (l e0 : Nat) (v : IV) (una nxt : Int) (ps : List Piece) (hok : okB una nxt ps = true) (hl : l < h.n) (hb : h.obj l = .rows [[.int .i64 una, .int .i64 nxt, v]] e0 3 false) (hs : SlR h 6 v (ps.map Piece.row)) :
    ICalls Try.prog 70 [.ptr l 0 0] h fun r h' => r = .int .i64 (pipeOf ps) ∧ Ext h h' := by
  obtain ⟨o1, o2, o3, o4, o5⟩ := okB_un hok
  refine icalls (.of ok70) (Nat.le_of_ble_eq_true rfl) ?_
  unfold c70
  have hlen := hs.lenF
  rw [List.length_map] at hlen
  simp only [hb, hlen, hs.one, go_sem, Hold.p, HoldK.k, HoldL.K, HoldL.body, Nat.reduceBEq, Nat.reduceAdd, List.getElem?_cons_zero, List.getElem?_cons_succ, Option.bind_some, List.map_cons, List.map_nil, Nat.zero_add, if_true, List.getD_cons_zero, List.getD_cons_succ, List.contains_cons, List.contains_nil, Nat.reduceBEq, Bool.or_true, Bool.true_or, Bool.or_false, Bool.false_or, Bool.not_true, Bool.not_false, true_and, and_true]
  refine loop_at (fun n e h' => ∃ k, n = ps.length - k ∧ k ≤ ps.length ∧ e 10 = v ∧ e 11 = .int .i64 ps.length ∧ e 12 = .int .i64 k ∧ e 3 = .int .i64 (pipeOf (ps.take k)) ∧ Ext h h') ps.length ?_ ?_
  · refine ⟨0, by omega, by omega, ?_⟩
    simp only [go_sem, Hold.p, HoldK.k, HoldL.K, HoldL.body, Nat.reduceBEq, Nat.reduceAdd, List.getElem?_cons_zero, List.getElem?_cons_succ, Option.bind_some, List.map_cons, List.map_nil, Nat.zero_add, if_true, List.getD_cons_zero, List.getD_cons_succ, List.contains_cons, List.contains_nil, Nat.reduceBEq, Bool.or_true, Bool.true_or, Bool.or_false, Bool.false_or, Bool.not_true, Bool.not_false, true_and, and_true]
    exact ⟨rfl, rfl, Ext.refl _⟩
  · rintro n e h' ⟨k, rfl, hk, e10, e11, e12, e3, hE⟩
    simp only [e10, e11, e12, e3, go_sem, Hold.p, HoldK.k, HoldL.K, HoldL.body, Nat.reduceBEq, Nat.reduceAdd, List.getElem?_cons_zero, List.getElem?_cons_succ, Option.bind_some, List.map_cons, List.map_nil, Nat.zero_add, if_true, List.getD_cons_zero, List.getD_cons_succ, List.contains_cons, List.contains_nil, Nat.reduceBEq, Bool.or_true, Bool.true_or, Bool.or_false, Bool.false_or, Bool.not_true, Bool.not_false, true_and, and_true]
    refine test_dec (fun hb => ?_) (fun hb => ?_)
    · simp only [e10, e11, e12, e3, go_sem, Hold.p, HoldK.k, HoldL.K, HoldL.body, Nat.reduceBEq, Nat.reduceAdd, List.getElem?_cons_zero, List.getElem?_cons_succ, Option.bind_some, List.map_cons, List.map_nil, Nat.zero_add, if_true, List.getD_cons_zero, List.getD_cons_succ, List.contains_cons, List.contains_nil, Nat.reduceBEq, Bool.or_true, Bool.true_or, Bool.or_false, Bool.false_or, Bool.not_true, Bool.not_false, true_and, and_true]
      have hlt' : k < ps.length := by omega
      have hkp : ps[k]? = some ps[k] := List.getElem?_eq_getElem hlt'
      have hmem : ps[k] ∈ ps := List.getElem_mem _
      generalize ps[k] = p at hkp hmem
      have hpb := (okPs_bound o5).2.1 p hmem
      have hkr : (ps.map Piece.row)[k]? = some p.row := by rw [List.getElem?_map, hkp]; rfl
      have hrl : p.row.length = 6 := rfl
      have htk := pipeOf_take o5 k
      have htk1 := pipeOf_take o5 (k + 1)
      have hsu := pipeOf_succ hkp
      have hw1 : wr .i64 (p.to - p.fr) = p.to - p.fr := wr64 _ (by omega)
      have hw2 : wr .i64 (pipeOf (ps.take k) + (p.to - p.fr)) = pipeOf (ps.take k) + (p.to - p.fr) := wr64 _ (by omega)
      obtain ⟨l, j, hia, hll, hrow⟩ := (hs.ext hE).at (m := k) (row := p.row) hkr .i64
      refine got_of hia ?_
      unfold Piece.row at hrow
      simp only [hrow, e10, e11, e12, e3, go_sem, Hold.p, HoldK.k, HoldL.K, HoldL.body, Nat.reduceBEq, Nat.reduceAdd, List.getElem?_cons_zero, List.getElem?_cons_succ, Option.bind_some, List.map_cons, List.map_nil, Nat.zero_add, if_true, List.getD_cons_zero, List.getD_cons_succ, List.contains_cons, List.contains_nil, Nat.reduceBEq, Bool.or_true, Bool.true_or, Bool.or_false, Bool.false_or, Bool.not_true, Bool.not_false, true_and, and_true, rowA_whole, push_n, set_n, push_obj, set_obj, set_push, set_push_ne, set_set, Nat.add_assoc, Nat.left_eq_add, Nat.add_eq_left, Nat.add_left_cancel_iff, Nat.reduceEqDiff, stO_1s, stO_ws, boxA_s, one_bool, one_int, one_str, one_ptr, one_nilptr, one_slice, one_eslice, one_nilslice, one_func, one_iface, one_niliface, List.all_cons, List.all_nil, List.length_cons, List.length_nil, Nat.reduceLT, Nat.reduceEqDiff, Nat.reduceLeDiff, Bool.and_true, Nat.one_ne_zero, Nat.succ_ne_zero, reduceIte, if_false, List.getElem?_cons_zero, List.set_cons_zero, List.set_cons_succ]
      refine guard_of (fun c1 => ?_) (fun c1 => ?_)
      · simp only [c1, hrow, e10, e11, e12, e3, go_sem, Hold.p, HoldK.k, HoldL.K, HoldL.body, Nat.reduceBEq, Nat.reduceAdd, List.getElem?_cons_zero, List.getElem?_cons_succ, Option.bind_some, List.map_cons, List.map_nil, Nat.zero_add, if_true, List.getD_cons_zero, List.getD_cons_succ, List.contains_cons, List.contains_nil, Nat.reduceBEq, Bool.or_true, Bool.true_or, Bool.or_false, Bool.false_or, Bool.not_true, Bool.not_false, true_and, and_true, rowA_whole, push_n, set_n, push_obj, set_obj, set_push, set_push_ne, set_set, Nat.add_assoc, Nat.left_eq_add, Nat.add_eq_left, Nat.add_left_cancel_iff, Nat.reduceEqDiff, stO_1s, stO_ws, boxA_s, one_bool, one_int, one_str, one_ptr, one_nilptr, one_slice, one_eslice, one_nilslice, one_func, one_iface, one_niliface, List.all_cons, List.all_nil, List.length_cons, List.length_nil, Nat.reduceLT, Nat.reduceEqDiff, Nat.reduceLeDiff, Bool.and_true, Nat.one_ne_zero, Nat.succ_ne_zero, reduceIte, if_false, List.getElem?_cons_zero, List.set_cons_zero, List.set_cons_succ]
        cases c2 : p.lost
        · simp only [c1, c2, hrow, e10, e11, e12, e3, hw1, hw2, go_sem, Hold.p, HoldK.k, HoldL.K, HoldL.body, Nat.reduceBEq, Nat.reduceAdd, List.getElem?_cons_zero, List.getElem?_cons_succ, Option.bind_some, List.map_cons, List.map_nil, Nat.zero_add, if_true, List.getD_cons_zero, List.getD_cons_succ, List.contains_cons, List.contains_nil, Nat.reduceBEq, Bool.or_true, Bool.true_or, Bool.or_false, Bool.false_or, Bool.not_true, Bool.not_false, true_and, and_true, rowA_whole, push_n, set_n, push_obj, set_obj, set_push, set_push_ne, set_set, Nat.add_assoc, Nat.left_eq_add, Nat.add_eq_left, Nat.add_left_cancel_iff, Nat.reduceEqDiff, stO_1s, stO_ws, boxA_s, one_bool, one_int, one_str, one_ptr, one_nilptr, one_slice, one_eslice, one_nilslice, one_func, one_iface, one_niliface, List.all_cons, List.all_nil, List.length_cons, List.length_nil, Nat.reduceLT, Nat.reduceEqDiff, Nat.reduceLeDiff, Bool.and_true, Nat.one_ne_zero, Nat.succ_ne_zero, reduceIte, if_false, List.getElem?_cons_zero, List.set_cons_zero, List.set_cons_succ]
          refine ⟨_, ?_, k + 1, rfl, by omega, wr64_succ k (by omega), ?_, hE.trans ((Ext.refl _).push _)⟩
          · omega
          · rw [hsu]; simp at c1; simp [c1, c2]
        · simp only [c1, c2, hrow, e10, e11, e12, e3, hw1, hw2, go_sem, Hold.p, HoldK.k, HoldL.K, HoldL.body, Nat.reduceBEq, Nat.reduceAdd, List.getElem?_cons_zero, List.getElem?_cons_succ, Option.bind_some, List.map_cons, List.map_nil, Nat.zero_add, if_true, List.getD_cons_zero, List.getD_cons_succ, List.contains_cons, List.contains_nil, Nat.reduceBEq, Bool.or_true, Bool.true_or, Bool.or_false, Bool.false_or, Bool.not_true, Bool.not_false, true_and, and_true, rowA_whole, push_n, set_n, push_obj, set_obj, set_push, set_push_ne, set_set, Nat.add_assoc, Nat.left_eq_add, Nat.add_eq_left, Nat.add_left_cancel_iff, Nat.reduceEqDiff, stO_1s, stO_ws, boxA_s, one_bool, one_int, one_str, one_ptr, one_nilptr, one_slice, one_eslice, one_nilslice, one_func, one_iface, one_niliface, List.all_cons, List.all_nil, List.length_cons, List.length_nil, Nat.reduceLT, Nat.reduceEqDiff, Nat.reduceLeDiff, Bool.and_true, Nat.one_ne_zero, Nat.succ_ne_zero, reduceIte, if_false, List.getElem?_cons_zero, List.set_cons_zero, List.set_cons_succ]
          refine ⟨_, ?_, k + 1, rfl, by omega, wr64_succ k (by omega), ?_, hE.trans ((Ext.refl _).push _)⟩
          · omega
          · rw [hsu]; simp [c2]
      · simp only [c1, hrow, e10, e11, e12, e3, go_sem, Hold.p, HoldK.k, HoldL.K, HoldL.body, Nat.reduceBEq, Nat.reduceAdd, List.getElem?_cons_zero, List.getElem?_cons_succ, Option.bind_some, List.map_cons, List.map_nil, Nat.zero_add, if_true, List.getD_cons_zero, List.getD_cons_succ, List.contains_cons, List.contains_nil, Nat.reduceBEq, Bool.or_true, Bool.true_or, Bool.or_false, Bool.false_or, Bool.not_true, Bool.not_false, true_and, and_true, rowA_whole, push_n, set_n, push_obj, set_obj, set_push, set_push_ne, set_set, Nat.add_assoc, Nat.left_eq_add, Nat.add_eq_left, Nat.add_left_cancel_iff, Nat.reduceEqDiff, stO_1s, stO_ws, boxA_s, one_bool, one_int, one_str, one_ptr, one_nilptr, one_slice, one_eslice, one_nilslice, one_func, one_iface, one_niliface, List.all_cons, List.all_nil, List.length_cons, List.length_nil, Nat.reduceLT, Nat.reduceEqDiff, Nat.reduceLeDiff, Bool.and_true, Nat.one_ne_zero, Nat.succ_ne_zero, reduceIte, if_false, List.getElem?_cons_zero, List.set_cons_zero, List.set_cons_succ]
        refine ⟨_, ?_, k + 1, rfl, by omega, wr64_succ k (by omega), ?_, hE.trans ((Ext.refl _).push _)⟩
        · omega
        · rw [hsu]; simp at c1; simp [c1]
    · simp only [e10, e11, e12, e3, go_sem, Hold.p, HoldK.k, HoldL.K, HoldL.body, Nat.reduceBEq, Nat.reduceAdd, List.getElem?_cons_zero, List.getElem?_cons_succ, Option.bind_some, List.map_cons, List.map_nil, Nat.zero_add, if_true, List.getD_cons_zero, List.getD_cons_succ, List.contains_cons, List.contains_nil, Nat.reduceBEq, Bool.or_true, Bool.true_or, Bool.or_false, Bool.false_or, Bool.not_true, Bool.not_false, true_and, and_true]
      obtain rfl : k = ps.length := by omega
      exact ⟨by rw [List.take_length], hE⟩

set_option maxRecDepth 20000 in
theorem implBoardPipe_c (h : IH) (v : IV) (una nxt : Int) (ps : List Piece) (hs : SlR h 6 v (ps.map Piece.row)) :
    ICalls Try.prog 27 [.agg [.int .i64 una, .int .i64 nxt, v]] h fun r h' => r = .int .i64 (if okB una nxt ps then pipeOf ps else -1) ∧ Ext h h' := by
  refine icalls (.of ok27) (Nat.le_of_ble_eq_true rfl) ?_
  unfold c27
  have hv1 := hs.one
  simp only [hv1, go_sem, Hold.p, HoldK.k, HoldL.K, HoldL.body, Nat.reduceBEq, Nat.reduceAdd, List.getElem?_cons_zero, List.getElem?_cons_succ, Option.bind_some, List.map_cons, List.map_nil, Nat.zero_add, if_true, List.getD_cons_zero, List.getD_cons_succ, List.contains_cons, List.contains_nil, Nat.reduceBEq, Bool.or_true, Bool.true_or, Bool.or_false, Bool.false_or, Bool.not_true, Bool.not_false, true_and, and_true, rowA_whole, push_n, set_n, push_obj, set_obj, set_push, set_push_ne, set_set, Nat.add_assoc, Nat.left_eq_add, Nat.add_eq_left, Nat.add_left_cancel_iff, Nat.reduceEqDiff, stO_1s, stO_ws, boxA_s, one_bool, one_int, one_str, one_ptr, one_nilptr, one_slice, one_eslice, one_nilslice, one_func, one_iface, one_niliface, List.all_cons, List.all_nil, List.length_cons, List.length_nil, Nat.reduceLT, Nat.reduceEqDiff, Nat.reduceLeDiff, Bool.and_true, Nat.one_ne_zero, Nat.succ_ne_zero, reduceIte, if_false, List.getElem?_cons_zero, List.set_cons_zero, List.set_cons_succ]
  have hE : ∀ a, Ext h (h.push a) := fun a => (Ext.refl _).push _
  refine callA_of (okBoard_c _ una nxt v ps (hs.ext (hE _))) ?_
  rintro r h' ⟨rfl, hE2⟩
  have b0 := hE2.obj h.n (by simp only [push_n]; omega)
  simp [push_obj] at b0
  cases hok : okB una nxt ps
  · simp only [hok, hv1, go_sem, Hold.p, HoldK.k, HoldL.K, HoldL.body, Nat.reduceBEq, Nat.reduceAdd, List.getElem?_cons_zero, List.getElem?_cons_succ, Option.bind_some, List.map_cons, List.map_nil, Nat.zero_add, if_true, List.getD_cons_zero, List.getD_cons_succ, List.contains_cons, List.contains_nil, Nat.reduceBEq, Bool.or_true, Bool.true_or, Bool.or_false, Bool.false_or, Bool.not_true, Bool.not_false, true_and, and_true, rowA_whole, push_n, set_n, push_obj, set_obj, set_push, set_push_ne, set_set, Nat.add_assoc, Nat.left_eq_add, Nat.add_eq_left, Nat.add_left_cancel_iff, Nat.reduceEqDiff, stO_1s, stO_ws, boxA_s, one_bool, one_int, one_str, one_ptr, one_nilptr, one_slice, one_eslice, one_nilslice, one_func, one_iface, one_niliface, List.all_cons, List.all_nil, List.length_cons, List.length_nil, Nat.reduceLT, Nat.reduceEqDiff, Nat.reduceLeDiff, Bool.and_true, Nat.one_ne_zero, Nat.succ_ne_zero, reduceIte, if_false, List.getElem?_cons_zero, List.set_cons_zero, List.set_cons_succ]
    exact ⟨rfl, (hE _).trans hE2⟩
  · simp only [hok, hv1, b0, go_sem, Hold.p, HoldK.k, HoldL.K, HoldL.body, Nat.reduceBEq, Nat.reduceAdd, List.getElem?_cons_zero, List.getElem?_cons_succ, Option.bind_some, List.map_cons, List.map_nil, Nat.zero_add, if_true, List.getD_cons_zero, List.getD_cons_succ, List.contains_cons, List.contains_nil, Nat.reduceBEq, Bool.or_true, Bool.true_or, Bool.or_false, Bool.false_or, Bool.not_true, Bool.not_false, true_and, and_true, rowA_whole, push_n, set_n, push_obj, set_obj, set_push, set_push_ne, set_set, Nat.add_assoc, Nat.left_eq_add, Nat.add_eq_left, Nat.add_left_cancel_iff, Nat.reduceEqDiff, stO_1s, stO_ws, boxA_s, one_bool, one_int, one_str, one_ptr, one_nilptr, one_slice, one_eslice, one_nilslice, one_func, one_iface, one_niliface, List.all_cons, List.all_nil, List.length_cons, List.length_nil, Nat.reduceLT, Nat.reduceEqDiff, Nat.reduceLeDiff, Bool.and_true, Nat.one_ne_zero, Nat.succ_ne_zero, reduceIte, if_false, List.getElem?_cons_zero, List.set_cons_zero, List.set_cons_succ]
    refine got_of (v := .agg [.int .i64 una, .int .i64 nxt, v]) rfl ?_
    simp only [hok, hv1, b0, go_sem, Hold.p, HoldK.k, HoldL.K, HoldL.body, Nat.reduceBEq, Nat.reduceAdd, List.getElem?_cons_zero, List.getElem?_cons_succ, Option.bind_some, List.map_cons, List.map_nil, Nat.zero_add, if_true, List.getD_cons_zero, List.getD_cons_succ, List.contains_cons, List.contains_nil, Nat.reduceBEq, Bool.or_true, Bool.true_or, Bool.or_false, Bool.false_or, Bool.not_true, Bool.not_false, true_and, and_true, rowA_whole, push_n, set_n, push_obj, set_obj, set_push, set_push_ne, set_set, Nat.add_assoc, Nat.left_eq_add, Nat.add_eq_left, Nat.add_left_cancel_iff, Nat.reduceEqDiff, stO_1s, stO_ws, boxA_s, one_bool, one_int, one_str, one_ptr, one_nilptr, one_slice, one_eslice, one_nilslice, one_func, one_iface, one_niliface, List.all_cons, List.all_nil, List.length_cons, List.length_nil, Nat.reduceLT, Nat.reduceEqDiff, Nat.reduceLeDiff, Bool.and_true, Nat.one_ne_zero, Nat.succ_ne_zero, reduceIte, if_false, List.getElem?_cons_zero, List.set_cons_zero, List.set_cons_succ]
    refine callA_of (pipe_c _ h'.n 116 v una nxt ps hok (by simp only [push_n]; omega) (by simp [push_obj]) (((hs.ext (hE _)).ext hE2).ext ((Ext.refl _).push _))) ?_
    rintro r h2 ⟨rfl, hE3⟩
    simp only [go_sem, Hold.p, HoldK.k, HoldL.K, HoldL.body, Nat.reduceBEq, Nat.reduceAdd, List.getElem?_cons_zero, List.getElem?_cons_succ, Option.bind_some, List.map_cons, List.map_nil, Nat.zero_add, if_true, List.getD_cons_zero, List.getD_cons_succ, List.contains_cons, List.contains_nil, Nat.reduceBEq, Bool.or_true, Bool.true_or, Bool.or_false, Bool.false_or, Bool.not_true, Bool.not_false, true_and, and_true, rowA_whole, push_n, set_n, push_obj, set_obj, set_push, set_push_ne, set_set, Nat.add_assoc, Nat.left_eq_add, Nat.add_eq_left, Nat.add_left_cancel_iff, Nat.reduceEqDiff, stO_1s, stO_ws, boxA_s, one_bool, one_int, one_str, one_ptr, one_nilptr, one_slice, one_eslice, one_nilslice, one_func, one_iface, one_niliface, List.all_cons, List.all_nil, List.length_cons, List.length_nil, Nat.reduceLT, Nat.reduceEqDiff, Nat.reduceLeDiff, Bool.and_true, Nat.one_ne_zero, Nat.succ_ne_zero, reduceIte, if_false, List.getElem?_cons_zero, List.set_cons_zero, List.set_cons_succ]
    exact ((hE _).trans hE2).trans (((Ext.refl _).push _).trans hE3)

set_option maxRecDepth 20000 in
theorem l15OK_c (h : IH) (una nxt : Int) (v : IV) (ps : List Piece) (hs : SlR h 6 v (ps.map Piece.row)) :
    ICalls Try.prog 67 [.agg [.int .i64 una, .int .i64 nxt, v]] h fun r h' => r = .bool (okB una nxt ps) ∧ Ext h h' := by
  refine icalls (.of ok67) (Nat.le_of_ble_eq_true rfl) ?_
  unfold c67
  have hv1 := hs.one
  have hlen := hs.lenF
  rw [List.length_map] at hlen
  have hE0 : Ext h (h.push (IObj.rows [[IV.int IntKind.i64 una, IV.int IntKind.i64 nxt, v]] 40 3 false)) := (Ext.refl h).push _
  simp only [hv1, go_sem, Hold.p, HoldK.k, HoldL.K, HoldL.body, Nat.reduceBEq, Nat.reduceAdd, List.getElem?_cons_zero, List.getElem?_cons_succ, Option.bind_some, List.map_cons, List.map_nil, Nat.zero_add, if_true, List.getD_cons_zero, List.getD_cons_succ, List.contains_cons, List.contains_nil, Nat.reduceBEq, Bool.or_true, Bool.true_or, Bool.or_false, Bool.false_or, Bool.not_true, Bool.not_false, true_and, and_true, rowA_whole, push_n, set_n, push_obj, set_obj, set_push, set_push_ne, set_set, Nat.add_assoc, Nat.left_eq_add, Nat.add_eq_left, Nat.add_left_cancel_iff, Nat.reduceEqDiff, stO_1s, stO_ws, boxA_s, one_bool, one_int, one_str, one_ptr, one_nilptr, one_slice, one_eslice, one_nilslice, one_func, one_iface, one_niliface, List.all_cons, List.all_nil, List.length_cons, List.length_nil, Nat.reduceLT, Nat.reduceEqDiff, Nat.reduceLeDiff, Bool.and_true, Nat.one_ne_zero, Nat.succ_ne_zero, reduceIte, if_false, List.getElem?_cons_zero, List.set_cons_zero, List.set_cons_succ]
  refine guard_of (fun hb => ?_) (fun hb => ?_)
  case refine_2 => simp only [hb, hv1, hlen, go_sem, Hold.p, HoldK.k, HoldL.K, HoldL.body, Nat.reduceBEq, Nat.reduceAdd, List.getElem?_cons_zero, List.getElem?_cons_succ, Option.bind_some, List.map_cons, List.map_nil, Nat.zero_add, if_true, List.getD_cons_zero, List.getD_cons_succ, List.contains_cons, List.contains_nil, Nat.reduceBEq, Bool.or_true, Bool.true_or, Bool.or_false, Bool.false_or, Bool.not_true, Bool.not_false, true_and, and_true, rowA_whole, push_n, set_n, push_obj, set_obj, set_push, set_push_ne, set_set, Nat.add_assoc, Nat.left_eq_add, Nat.add_eq_left, Nat.add_left_cancel_iff, Nat.reduceEqDiff, stO_1s, stO_ws, boxA_s, one_bool, one_int, one_str, one_ptr, one_nilptr, one_slice, one_eslice, one_nilslice, one_func, one_iface, one_niliface, List.all_cons, List.all_nil, List.length_cons, List.length_nil, Nat.reduceLT, Nat.reduceEqDiff, Nat.reduceLeDiff, Bool.and_true, Nat.one_ne_zero, Nat.succ_ne_zero, reduceIte, if_false, List.getElem?_cons_zero, List.set_cons_zero, List.set_cons_succ]; exact ⟨by simp at hb; simp [okB]; omega, hE0⟩
  simp only [hb, hv1, hlen, go_sem, Hold.p, HoldK.k, HoldL.K, HoldL.body, Nat.reduceBEq, Nat.reduceAdd, List.getElem?_cons_zero, List.getElem?_cons_succ, Option.bind_some, List.map_cons, List.map_nil, Nat.zero_add, if_true, List.getD_cons_zero, List.getD_cons_succ, List.contains_cons, List.contains_nil, Nat.reduceBEq, Bool.or_true, Bool.true_or, Bool.or_false, Bool.false_or, Bool.not_true, Bool.not_false, true_and, and_true, rowA_whole, push_n, set_n, push_obj, set_obj, set_push, set_push_ne, set_set, Nat.add_assoc, Nat.left_eq_add, Nat.add_eq_left, Nat.add_left_cancel_iff, Nat.reduceEqDiff, stO_1s, stO_ws, boxA_s, one_bool, one_int, one_str, one_ptr, one_nilptr, one_slice, one_eslice, one_nilslice, one_func, one_iface, one_niliface, List.all_cons, List.all_nil, List.length_cons, List.length_nil, Nat.reduceLT, Nat.reduceEqDiff, Nat.reduceLeDiff, Bool.and_true, Nat.one_ne_zero, Nat.succ_ne_zero, reduceIte, if_false, List.getElem?_cons_zero, List.set_cons_zero, List.set_cons_succ]
  refine guard_of (fun hb2 => ?_) (fun hb2 => ?_)
  case refine_2 => simp only [hb2, hv1, hlen, go_sem, Hold.p, HoldK.k, HoldL.K, HoldL.body, Nat.reduceBEq, Nat.reduceAdd, List.getElem?_cons_zero, List.getElem?_cons_succ, Option.bind_some, List.map_cons, List.map_nil, Nat.zero_add, if_true, List.getD_cons_zero, List.getD_cons_succ, List.contains_cons, List.contains_nil, Nat.reduceBEq, Bool.or_true, Bool.true_or, Bool.or_false, Bool.false_or, Bool.not_true, Bool.not_false, true_and, and_true, rowA_whole, push_n, set_n, push_obj, set_obj, set_push, set_push_ne, set_set, Nat.add_assoc, Nat.left_eq_add, Nat.add_eq_left, Nat.add_left_cancel_iff, Nat.reduceEqDiff, stO_1s, stO_ws, boxA_s, one_bool, one_int, one_str, one_ptr, one_nilptr, one_slice, one_eslice, one_nilslice, one_func, one_iface, one_niliface, List.all_cons, List.all_nil, List.length_cons, List.length_nil, Nat.reduceLT, Nat.reduceEqDiff, Nat.reduceLeDiff, Bool.and_true, Nat.one_ne_zero, Nat.succ_ne_zero, reduceIte, if_false, List.getElem?_cons_zero, List.set_cons_zero, List.set_cons_succ]; exact ⟨by simp at hb2; simp [okB]; omega, hE0⟩
  simp only [hb2, hv1, hlen, go_sem, Hold.p, HoldK.k, HoldL.K, HoldL.body, Nat.reduceBEq, Nat.reduceAdd, List.getElem?_cons_zero, List.getElem?_cons_succ, Option.bind_some, List.map_cons, List.map_nil, Nat.zero_add, if_true, List.getD_cons_zero, List.getD_cons_succ, List.contains_cons, List.contains_nil, Nat.reduceBEq, Bool.or_true, Bool.true_or, Bool.or_false, Bool.false_or, Bool.not_true, Bool.not_false, true_and, and_true, rowA_whole, push_n, set_n, push_obj, set_obj, set_push, set_push_ne, set_set, Nat.add_assoc, Nat.left_eq_add, Nat.add_eq_left, Nat.add_left_cancel_iff, Nat.reduceEqDiff, stO_1s, stO_ws, boxA_s, one_bool, one_int, one_str, one_ptr, one_nilptr, one_slice, one_eslice, one_nilslice, one_func, one_iface, one_niliface, List.all_cons, List.all_nil, List.length_cons, List.length_nil, Nat.reduceLT, Nat.reduceEqDiff, Nat.reduceLeDiff, Bool.and_true, Nat.one_ne_zero, Nat.succ_ne_zero, reduceIte, if_false, List.getElem?_cons_zero, List.set_cons_zero, List.set_cons_succ]
  refine guard_of (fun hb3 => ?_) (fun hb3 => ?_)
  case refine_2 => simp only [hb3, hv1, hlen, go_sem, Hold.p, HoldK.k, HoldL.K, HoldL.body, Nat.reduceBEq, Nat.reduceAdd, List.getElem?_cons_zero, List.getElem?_cons_succ, Option.bind_some, List.map_cons, List.map_nil, Nat.zero_add, if_true, List.getD_cons_zero, List.getD_cons_succ, List.contains_cons, List.contains_nil, Nat.reduceBEq, Bool.or_true, Bool.true_or, Bool.or_false, Bool.false_or, Bool.not_true, Bool.not_false, true_and, and_true, rowA_whole, push_n, set_n, push_obj, set_obj, set_push, set_push_ne, set_set, Nat.add_assoc, Nat.left_eq_add, Nat.add_eq_left, Nat.add_left_cancel_iff, Nat.reduceEqDiff, stO_1s, stO_ws, boxA_s, one_bool, one_int, one_str, one_ptr, one_nilptr, one_slice, one_eslice, one_nilslice, one_func, one_iface, one_niliface, List.all_cons, List.all_nil, List.length_cons, List.length_nil, Nat.reduceLT, Nat.reduceEqDiff, Nat.reduceLeDiff, Bool.and_true, Nat.one_ne_zero, Nat.succ_ne_zero, reduceIte, if_false, List.getElem?_cons_zero, List.set_cons_zero, List.set_cons_succ]; exact ⟨by simp at hb3; simp [okB]; omega, hE0⟩
  simp only [hb3, hv1, hlen, go_sem, Hold.p, HoldK.k, HoldL.K, HoldL.body, Nat.reduceBEq, Nat.reduceAdd, List.getElem?_cons_zero, List.getElem?_cons_succ, Option.bind_some, List.map_cons, List.map_nil, Nat.zero_add, if_true, List.getD_cons_zero, List.getD_cons_succ, List.contains_cons, List.contains_nil, Nat.reduceBEq, Bool.or_true, Bool.true_or, Bool.or_false, Bool.false_or, Bool.not_true, Bool.not_false, true_and, and_true, rowA_whole, push_n, set_n, push_obj, set_obj, set_push, set_push_ne, set_set, Nat.add_assoc, Nat.left_eq_add, Nat.add_eq_left, Nat.add_left_cancel_iff, Nat.reduceEqDiff, stO_1s, stO_ws, boxA_s, one_bool, one_int, one_str, one_ptr, one_nilptr, one_slice, one_eslice, one_nilslice, one_func, one_iface, one_niliface, List.all_cons, List.all_nil, List.length_cons, List.length_nil, Nat.reduceLT, Nat.reduceEqDiff, Nat.reduceLeDiff, Bool.and_true, Nat.one_ne_zero, Nat.succ_ne_zero, reduceIte, if_false, List.getElem?_cons_zero, List.set_cons_zero, List.set_cons_succ]
  refine test_dec (fun hb4 => ?_) (fun hb4 => ?_)
  case refine_1 => simp only [hv1, hlen, go_sem, Hold.p, HoldK.k, HoldL.K, HoldL.body, Nat.reduceBEq, Nat.reduceAdd, List.getElem?_cons_zero, List.getElem?_cons_succ, Option.bind_some, List.map_cons, List.map_nil, Nat.zero_add, if_true, List.getD_cons_zero, List.getD_cons_succ, List.contains_cons, List.contains_nil, Nat.reduceBEq, Bool.or_true, Bool.true_or, Bool.or_false, Bool.false_or, Bool.not_true, Bool.not_false, true_and, and_true, rowA_whole, push_n, set_n, push_obj, set_obj, set_push, set_push_ne, set_set, Nat.add_assoc, Nat.left_eq_add, Nat.add_eq_left, Nat.add_left_cancel_iff, Nat.reduceEqDiff, stO_1s, stO_ws, boxA_s, one_bool, one_int, one_str, one_ptr, one_nilptr, one_slice, one_eslice, one_nilslice, one_func, one_iface, one_niliface, List.all_cons, List.all_nil, List.length_cons, List.length_nil, Nat.reduceLT, Nat.reduceEqDiff, Nat.reduceLeDiff, Bool.and_true, Nat.one_ne_zero, Nat.succ_ne_zero, reduceIte, if_false, List.getElem?_cons_zero, List.set_cons_zero, List.set_cons_succ]; exact ⟨by simp [okB]; omega, hE0⟩
  simp only [hv1, hlen, go_sem, Hold.p, HoldK.k, HoldL.K, HoldL.body, Nat.reduceBEq, Nat.reduceAdd, List.getElem?_cons_zero, List.getElem?_cons_succ, Option.bind_some, List.map_cons, List.map_nil, Nat.zero_add, if_true, List.getD_cons_zero, List.getD_cons_succ, List.contains_cons, List.contains_nil, Nat.reduceBEq, Bool.or_true, Bool.true_or, Bool.or_false, Bool.false_or, Bool.not_true, Bool.not_false, true_and, and_true, rowA_whole, push_n, set_n, push_obj, set_obj, set_push, set_push_ne, set_set, Nat.add_assoc, Nat.left_eq_add, Nat.add_eq_left, Nat.add_left_cancel_iff, Nat.reduceEqDiff, stO_1s, stO_ws, boxA_s, one_bool, one_int, one_str, one_ptr, one_nilptr, one_slice, one_eslice, one_nilslice, one_func, one_iface, one_niliface, List.all_cons, List.all_nil, List.length_cons, List.length_nil, Nat.reduceLT, Nat.reduceEqDiff, Nat.reduceLeDiff, Bool.and_true, Nat.one_ne_zero, Nat.succ_ne_zero, reduceIte, if_false, List.getElem?_cons_zero, List.set_cons_zero, List.set_cons_succ]
  simp at hb hb2 hb3
  have hok : okB una nxt ps = okPs nxt una ps := by
    have e4 : ps.length ≤ 4096 := by omega
    simp [okB, hb, hb2, hb3, e4]
  rw [hok]
  refine loop_at (fun n e h' => ∃ k at_, n = ps.length - k ∧ k ≤ ps.length ∧ e 1 = .ptr h.n 0 0 ∧ e 4 = .int .i64 k ∧ e 3 = .int .i64 at_ ∧ okPs nxt una ps = okPs nxt at_ (ps.drop k) ∧
    Ext (h.push (IObj.rows [[IV.int IntKind.i64 una, IV.int IntKind.i64 nxt, v]] 40 3 false)) h') ps.length ?_ ?_
  · refine ⟨0, una, by omega, by omega, ?_⟩
    simp only [go_sem, Hold.p, HoldK.k, HoldL.K, HoldL.body, Nat.reduceBEq, Nat.reduceAdd, List.getElem?_cons_zero, List.getElem?_cons_succ, Option.bind_some, List.map_cons, List.map_nil, Nat.zero_add, if_true, List.getD_cons_zero, List.getD_cons_succ, List.contains_cons, List.contains_nil, Nat.reduceBEq, Bool.or_true, Bool.true_or, Bool.or_false, Bool.false_or, Bool.not_true, Bool.not_false, true_and, and_true]
    exact ⟨rfl, rfl, Ext.refl _⟩
  · rintro n e h' ⟨k, at_, rfl, hk, e1, e4, e3, hrel, hE⟩
    have hbox : h'.obj h.n = .rows [[.int .i64 una, .int .i64 nxt, v]] 40 3 false := (hE.obj h.n (by simp only [push_n]; omega)).trans (push_new _ _)
    simp only [e1, e3, e4, hbox, hlen, go_sem, Hold.p, HoldK.k, HoldL.K, HoldL.body, Nat.reduceBEq, Nat.reduceAdd, List.getElem?_cons_zero, List.getElem?_cons_succ, Option.bind_some, List.map_cons, List.map_nil, Nat.zero_add, if_true, List.getD_cons_zero, List.getD_cons_succ, List.contains_cons, List.contains_nil, Nat.reduceBEq, Bool.or_true, Bool.true_or, Bool.or_false, Bool.false_or, Bool.not_true, Bool.not_false, true_and, and_true]
    refine test_dec (fun hlt => ?_) (fun hlt => ?_)
    · simp only [e1, e3, e4, hbox, go_sem, Hold.p, HoldK.k, HoldL.K, HoldL.body, Nat.reduceBEq, Nat.reduceAdd, List.getElem?_cons_zero, List.getElem?_cons_succ, Option.bind_some, List.map_cons, List.map_nil, Nat.zero_add, if_true, List.getD_cons_zero, List.getD_cons_succ, List.contains_cons, List.contains_nil, Nat.reduceBEq, Bool.or_true, Bool.true_or, Bool.or_false, Bool.false_or, Bool.not_true, Bool.not_false, true_and, and_true]
      have hlt' : k < ps.length := by omega
      have hkp : ps[k]? = some ps[k] := List.getElem?_eq_getElem hlt'
      have hdrop : ps.drop k = ps[k] :: ps.drop (k + 1) := List.drop_eq_getElem_cons hlt'
      generalize ps[k] = p at hkp hdrop
      obtain ⟨l, j, hia, hll, hrow⟩ := ((hs.ext hE0).ext hE).at (m := k) (row := p.row) (by rw [List.getElem?_map, hkp]; rfl) .i64
      rw [hrel, hdrop]
      have hrl : p.row.length = 6 := rfl
      refine got_of hia ?_
      unfold Piece.row at hrow
      simp only [hrow, e1, e3, e4, go_sem, Hold.p, HoldK.k, HoldL.K, HoldL.body, Nat.reduceBEq, Nat.reduceAdd, List.getElem?_cons_zero, List.getElem?_cons_succ, Option.bind_some, List.map_cons, List.map_nil, Nat.zero_add, if_true, List.getD_cons_zero, List.getD_cons_succ, List.contains_cons, List.contains_nil, Nat.reduceBEq, Bool.or_true, Bool.true_or, Bool.or_false, Bool.false_or, Bool.not_true, Bool.not_false, true_and, and_true, rowA_whole, push_n, set_n, push_obj, set_obj, set_push, set_push_ne, set_set, Nat.add_assoc, Nat.left_eq_add, Nat.add_eq_left, Nat.add_left_cancel_iff, Nat.reduceEqDiff, stO_1s, stO_ws, boxA_s, one_bool, one_int, one_str, one_ptr, one_nilptr, one_slice, one_eslice, one_nilslice, one_func, one_iface, one_niliface, List.all_cons, List.all_nil, List.length_cons, List.length_nil, Nat.reduceLT, Nat.reduceEqDiff, Nat.reduceLeDiff, Bool.and_true, Nat.one_ne_zero, Nat.succ_ne_zero, reduceIte, if_false, List.getElem?_cons_zero, List.set_cons_zero, List.set_cons_succ]
      have hno : okPs nxt at_ (p :: ps.drop (k + 1)) = (decide (p.fr = at_) && decide (p.fr < p.to) && decide (0 ≤ p.at_) && decide (p.at_ ≤ 1000000000) && decide (1 ≤ p.times) && decide (p.times ≤ 1000000) && !(p.sacked && p.lost) && okPs nxt p.to (ps.drop (k + 1))) := rfl
      have hX : ∀ o1, Ext h (h'.push o1) := fun o1 => hE0.trans (hE.trans ((Ext.refl _).push _))
      refine guard_of (fun c1 => ?_) (fun c1 => ?_)
      case refine_2 => (try simp only [Bool.not_false, Bool.not_true] at c1); simp only [c1, e1, e3, e4, go_sem, Hold.p, HoldK.k, HoldL.K, HoldL.body, Nat.reduceBEq, Nat.reduceAdd, List.getElem?_cons_zero, List.getElem?_cons_succ, Option.bind_some, List.map_cons, List.map_nil, Nat.zero_add, if_true, List.getD_cons_zero, List.getD_cons_succ, List.contains_cons, List.contains_nil, Nat.reduceBEq, Bool.or_true, Bool.true_or, Bool.or_false, Bool.false_or, Bool.not_true, Bool.not_false, true_and, and_true, rowA_whole, push_n, set_n, push_obj, set_obj, set_push, set_push_ne, set_set, Nat.add_assoc, Nat.left_eq_add, Nat.add_eq_left, Nat.add_left_cancel_iff, Nat.reduceEqDiff, stO_1s, stO_ws, boxA_s, one_bool, one_int, one_str, one_ptr, one_nilptr, one_slice, one_eslice, one_nilslice, one_func, one_iface, one_niliface, List.all_cons, List.all_nil, List.length_cons, List.length_nil, Nat.reduceLT, Nat.reduceEqDiff, Nat.reduceLeDiff, Bool.and_true, Nat.one_ne_zero, Nat.succ_ne_zero, reduceIte, if_false, List.getElem?_cons_zero, List.set_cons_zero, List.set_cons_succ]; exact ⟨by simp at c1; simp [hno]; omega, hX _⟩
      simp only [c1, e1, e3, e4, go_sem, Hold.p, HoldK.k, HoldL.K, HoldL.body, Nat.reduceBEq, Nat.reduceAdd, List.getElem?_cons_zero, List.getElem?_cons_succ, Option.bind_some, List.map_cons, List.map_nil, Nat.zero_add, if_true, List.getD_cons_zero, List.getD_cons_succ, List.contains_cons, List.contains_nil, Nat.reduceBEq, Bool.or_true, Bool.true_or, Bool.or_false, Bool.false_or, Bool.not_true, Bool.not_false, true_and, and_true, rowA_whole, push_n, set_n, push_obj, set_obj, set_push, set_push_ne, set_set, Nat.add_assoc, Nat.left_eq_add, Nat.add_eq_left, Nat.add_left_cancel_iff, Nat.reduceEqDiff, stO_1s, stO_ws, boxA_s, one_bool, one_int, one_str, one_ptr, one_nilptr, one_slice, one_eslice, one_nilslice, one_func, one_iface, one_niliface, List.all_cons, List.all_nil, List.length_cons, List.length_nil, Nat.reduceLT, Nat.reduceEqDiff, Nat.reduceLeDiff, Bool.and_true, Nat.one_ne_zero, Nat.succ_ne_zero, reduceIte, if_false, List.getElem?_cons_zero, List.set_cons_zero, List.set_cons_succ]
      refine guard_of (fun c2 => ?_) (fun c2 => ?_)
      case refine_2 => (try simp only [Bool.not_false, Bool.not_true] at c2); simp only [c2, e1, e3, e4, go_sem, Hold.p, HoldK.k, HoldL.K, HoldL.body, Nat.reduceBEq, Nat.reduceAdd, List.getElem?_cons_zero, List.getElem?_cons_succ, Option.bind_some, List.map_cons, List.map_nil, Nat.zero_add, if_true, List.getD_cons_zero, List.getD_cons_succ, List.contains_cons, List.contains_nil, Nat.reduceBEq, Bool.or_true, Bool.true_or, Bool.or_false, Bool.false_or, Bool.not_true, Bool.not_false, true_and, and_true, rowA_whole, push_n, set_n, push_obj, set_obj, set_push, set_push_ne, set_set, Nat.add_assoc, Nat.left_eq_add, Nat.add_eq_left, Nat.add_left_cancel_iff, Nat.reduceEqDiff, stO_1s, stO_ws, boxA_s, one_bool, one_int, one_str, one_ptr, one_nilptr, one_slice, one_eslice, one_nilslice, one_func, one_iface, one_niliface, List.all_cons, List.all_nil, List.length_cons, List.length_nil, Nat.reduceLT, Nat.reduceEqDiff, Nat.reduceLeDiff, Bool.and_true, Nat.one_ne_zero, Nat.succ_ne_zero, reduceIte, if_false, List.getElem?_cons_zero, List.set_cons_zero, List.set_cons_succ]; exact ⟨by simp at c2; simp [hno]; omega, hX _⟩
      simp only [c2, e1, e3, e4, go_sem, Hold.p, HoldK.k, HoldL.K, HoldL.body, Nat.reduceBEq, Nat.reduceAdd, List.getElem?_cons_zero, List.getElem?_cons_succ, Option.bind_some, List.map_cons, List.map_nil, Nat.zero_add, if_true, List.getD_cons_zero, List.getD_cons_succ, List.contains_cons, List.contains_nil, Nat.reduceBEq, Bool.or_true, Bool.true_or, Bool.or_false, Bool.false_or, Bool.not_true, Bool.not_false, true_and, and_true, rowA_whole, push_n, set_n, push_obj, set_obj, set_push, set_push_ne, set_set, Nat.add_assoc, Nat.left_eq_add, Nat.add_eq_left, Nat.add_left_cancel_iff, Nat.reduceEqDiff, stO_1s, stO_ws, boxA_s, one_bool, one_int, one_str, one_ptr, one_nilptr, one_slice, one_eslice, one_nilslice, one_func, one_iface, one_niliface, List.all_cons, List.all_nil, List.length_cons, List.length_nil, Nat.reduceLT, Nat.reduceEqDiff, Nat.reduceLeDiff, Bool.and_true, Nat.one_ne_zero, Nat.succ_ne_zero, reduceIte, if_false, List.getElem?_cons_zero, List.set_cons_zero, List.set_cons_succ]
      refine callA_of (l01In_c _ _ _ _) ?_
      rintro r2 h2 ⟨rfl, rfl⟩
      simp only [c2, e1, e3, e4, go_sem, Hold.p, HoldK.k, HoldL.K, HoldL.body, Nat.reduceBEq, Nat.reduceAdd, List.getElem?_cons_zero, List.getElem?_cons_succ, Option.bind_some, List.map_cons, List.map_nil, Nat.zero_add, if_true, List.getD_cons_zero, List.getD_cons_succ, List.contains_cons, List.contains_nil, Nat.reduceBEq, Bool.or_true, Bool.true_or, Bool.or_false, Bool.false_or, Bool.not_true, Bool.not_false, true_and, and_true, rowA_whole, push_n, set_n, push_obj, set_obj, set_push, set_push_ne, set_set, Nat.add_assoc, Nat.left_eq_add, Nat.add_eq_left, Nat.add_left_cancel_iff, Nat.reduceEqDiff, stO_1s, stO_ws, boxA_s, one_bool, one_int, one_str, one_ptr, one_nilptr, one_slice, one_eslice, one_nilslice, one_func, one_iface, one_niliface, List.all_cons, List.all_nil, List.length_cons, List.length_nil, Nat.reduceLT, Nat.reduceEqDiff, Nat.reduceLeDiff, Bool.and_true, Nat.one_ne_zero, Nat.succ_ne_zero, reduceIte, if_false, List.getElem?_cons_zero, List.set_cons_zero, List.set_cons_succ]
      refine guard_of (fun c3 => ?_) (fun c3 => ?_)
      case refine_2 => (try simp only [Bool.not_false, Bool.not_true] at c3); simp only [c3, e1, e3, e4, go_sem, Hold.p, HoldK.k, HoldL.K, HoldL.body, Nat.reduceBEq, Nat.reduceAdd, List.getElem?_cons_zero, List.getElem?_cons_succ, Option.bind_some, List.map_cons, List.map_nil, Nat.zero_add, if_true, List.getD_cons_zero, List.getD_cons_succ, List.contains_cons, List.contains_nil, Nat.reduceBEq, Bool.or_true, Bool.true_or, Bool.or_false, Bool.false_or, Bool.not_true, Bool.not_false, true_and, and_true, rowA_whole, push_n, set_n, push_obj, set_obj, set_push, set_push_ne, set_set, Nat.add_assoc, Nat.left_eq_add, Nat.add_eq_left, Nat.add_left_cancel_iff, Nat.reduceEqDiff, stO_1s, stO_ws, boxA_s, one_bool, one_int, one_str, one_ptr, one_nilptr, one_slice, one_eslice, one_nilslice, one_func, one_iface, one_niliface, List.all_cons, List.all_nil, List.length_cons, List.length_nil, Nat.reduceLT, Nat.reduceEqDiff, Nat.reduceLeDiff, Bool.and_true, Nat.one_ne_zero, Nat.succ_ne_zero, reduceIte, if_false, List.getElem?_cons_zero, List.set_cons_zero, List.set_cons_succ]; exact ⟨by simp at c3; simp [hno]; omega, hX _⟩
      simp only [c3, e1, e3, e4, go_sem, Hold.p, HoldK.k, HoldL.K, HoldL.body, Nat.reduceBEq, Nat.reduceAdd, List.getElem?_cons_zero, List.getElem?_cons_succ, Option.bind_some, List.map_cons, List.map_nil, Nat.zero_add, if_true, List.getD_cons_zero, List.getD_cons_succ, List.contains_cons, List.contains_nil, Nat.reduceBEq, Bool.or_true, Bool.true_or, Bool.or_false, Bool.false_or, Bool.not_true, Bool.not_false, true_and, and_true, rowA_whole, push_n, set_n, push_obj, set_obj, set_push, set_push_ne, set_set, Nat.add_assoc, Nat.left_eq_add, Nat.add_eq_left, Nat.add_left_cancel_iff, Nat.reduceEqDiff, stO_1s, stO_ws, boxA_s, one_bool, one_int, one_str, one_ptr, one_nilptr, one_slice, one_eslice, one_nilslice, one_func, one_iface, one_niliface, List.all_cons, List.all_nil, List.length_cons, List.length_nil, Nat.reduceLT, Nat.reduceEqDiff, Nat.reduceLeDiff, Bool.and_true, Nat.one_ne_zero, Nat.succ_ne_zero, reduceIte, if_false, List.getElem?_cons_zero, List.set_cons_zero, List.set_cons_succ]
      refine callA_of (l01In_c _ _ _ _) ?_
      rintro r3 h3 ⟨rfl, rfl⟩
      simp only [c3, e1, e3, e4, go_sem, Hold.p, HoldK.k, HoldL.K, HoldL.body, Nat.reduceBEq, Nat.reduceAdd, List.getElem?_cons_zero, List.getElem?_cons_succ, Option.bind_some, List.map_cons, List.map_nil, Nat.zero_add, if_true, List.getD_cons_zero, List.getD_cons_succ, List.contains_cons, List.contains_nil, Nat.reduceBEq, Bool.or_true, Bool.true_or, Bool.or_false, Bool.false_or, Bool.not_true, Bool.not_false, true_and, and_true, rowA_whole, push_n, set_n, push_obj, set_obj, set_push, set_push_ne, set_set, Nat.add_assoc, Nat.left_eq_add, Nat.add_eq_left, Nat.add_left_cancel_iff, Nat.reduceEqDiff, stO_1s, stO_ws, boxA_s, one_bool, one_int, one_str, one_ptr, one_nilptr, one_slice, one_eslice, one_nilslice, one_func, one_iface, one_niliface, List.all_cons, List.all_nil, List.length_cons, List.length_nil, Nat.reduceLT, Nat.reduceEqDiff, Nat.reduceLeDiff, Bool.and_true, Nat.one_ne_zero, Nat.succ_ne_zero, reduceIte, if_false, List.getElem?_cons_zero, List.set_cons_zero, List.set_cons_succ]
      refine guard_of (fun c4 => ?_) (fun c4 => ?_)
      case refine_2 => (try simp only [Bool.not_false, Bool.not_true] at c4); simp only [c4, e1, e3, e4, go_sem, Hold.p, HoldK.k, HoldL.K, HoldL.body, Nat.reduceBEq, Nat.reduceAdd, List.getElem?_cons_zero, List.getElem?_cons_succ, Option.bind_some, List.map_cons, List.map_nil, Nat.zero_add, if_true, List.getD_cons_zero, List.getD_cons_succ, List.contains_cons, List.contains_nil, Nat.reduceBEq, Bool.or_true, Bool.true_or, Bool.or_false, Bool.false_or, Bool.not_true, Bool.not_false, true_and, and_true, rowA_whole, push_n, set_n, push_obj, set_obj, set_push, set_push_ne, set_set, Nat.add_assoc, Nat.left_eq_add, Nat.add_eq_left, Nat.add_left_cancel_iff, Nat.reduceEqDiff, stO_1s, stO_ws, boxA_s, one_bool, one_int, one_str, one_ptr, one_nilptr, one_slice, one_eslice, one_nilslice, one_func, one_iface, one_niliface, List.all_cons, List.all_nil, List.length_cons, List.length_nil, Nat.reduceLT, Nat.reduceEqDiff, Nat.reduceLeDiff, Bool.and_true, Nat.one_ne_zero, Nat.succ_ne_zero, reduceIte, if_false, List.getElem?_cons_zero, List.set_cons_zero, List.set_cons_succ]; exact ⟨by simp at c4; simp [hno]; omega, hX _⟩
      simp only [c4, e1, e3, e4, go_sem, Hold.p, HoldK.k, HoldL.K, HoldL.body, Nat.reduceBEq, Nat.reduceAdd, List.getElem?_cons_zero, List.getElem?_cons_succ, Option.bind_some, List.map_cons, List.map_nil, Nat.zero_add, if_true, List.getD_cons_zero, List.getD_cons_succ, List.contains_cons, List.contains_nil, Nat.reduceBEq, Bool.or_true, Bool.true_or, Bool.or_false, Bool.false_or, Bool.not_true, Bool.not_false, true_and, and_true, rowA_whole, push_n, set_n, push_obj, set_obj, set_push, set_push_ne, set_set, Nat.add_assoc, Nat.left_eq_add, Nat.add_eq_left, Nat.add_left_cancel_iff, Nat.reduceEqDiff, stO_1s, stO_ws, boxA_s, one_bool, one_int, one_str, one_ptr, one_nilptr, one_slice, one_eslice, one_nilslice, one_func, one_iface, one_niliface, List.all_cons, List.all_nil, List.length_cons, List.length_nil, Nat.reduceLT, Nat.reduceEqDiff, Nat.reduceLeDiff, Bool.and_true, Nat.one_ne_zero, Nat.succ_ne_zero, reduceIte, if_false, List.getElem?_cons_zero, List.set_cons_zero, List.set_cons_succ]
      refine guard_of (fun c5 => ?_) (fun c5 => ?_)
      case' refine_1 => simp only [c4, c5, e1, e3, e4, go_sem, Hold.p, HoldK.k, HoldL.K, HoldL.body, Nat.reduceBEq, Nat.reduceAdd, List.getElem?_cons_zero, List.getElem?_cons_succ, Option.bind_some, List.map_cons, List.map_nil, Nat.zero_add, if_true, List.getD_cons_zero, List.getD_cons_succ, List.contains_cons, List.contains_nil, Nat.reduceBEq, Bool.or_true, Bool.true_or, Bool.or_false, Bool.false_or, Bool.not_true, Bool.not_false, true_and, and_true, rowA_whole, push_n, set_n, push_obj, set_obj, set_push, set_push_ne, set_set, Nat.add_assoc, Nat.left_eq_add, Nat.add_eq_left, Nat.add_left_cancel_iff, Nat.reduceEqDiff, stO_1s, stO_ws, boxA_s, one_bool, one_int, one_str, one_ptr, one_nilptr, one_slice, one_eslice, one_nilslice, one_func, one_iface, one_niliface, List.all_cons, List.all_nil, List.length_cons, List.length_nil, Nat.reduceLT, Nat.reduceEqDiff, Nat.reduceLeDiff, Bool.and_true, Nat.one_ne_zero, Nat.succ_ne_zero, reduceIte, if_false, List.getElem?_cons_zero, List.set_cons_zero, List.set_cons_succ]; cases hl : p.lost
      case' refine_1.true => simp only [go_sem, Hold.p, HoldK.k, HoldL.K, HoldL.body, Nat.reduceBEq, Nat.reduceAdd, List.getElem?_cons_zero, List.getElem?_cons_succ, Option.bind_some, List.map_cons, List.map_nil, Nat.zero_add, if_true, List.getD_cons_zero, List.getD_cons_succ, List.contains_cons, List.contains_nil, Nat.reduceBEq, Bool.or_true, Bool.true_or, Bool.or_false, Bool.false_or, Bool.not_true, Bool.not_false, true_and, and_true, rowA_whole, push_n, set_n, push_obj, set_obj, set_push, set_push_ne, set_set, Nat.add_assoc, Nat.left_eq_add, Nat.add_eq_left, Nat.add_left_cancel_iff, Nat.reduceEqDiff, stO_1s, stO_ws, boxA_s, one_bool, one_int, one_str, one_ptr, one_nilptr, one_slice, one_eslice, one_nilslice, one_func, one_iface, one_niliface, List.all_cons, List.all_nil, List.length_cons, List.length_nil, Nat.reduceLT, Nat.reduceEqDiff, Nat.reduceLeDiff, Bool.and_true, Nat.one_ne_zero, Nat.succ_ne_zero, reduceIte, if_false, List.getElem?_cons_zero, List.set_cons_zero, List.set_cons_succ]; exact ⟨by simp [hno, c5, hl], hX _⟩
      case' refine_1.false => simp only [e1, e3, e4, go_sem, Hold.p, HoldK.k, HoldL.K, HoldL.body, Nat.reduceBEq, Nat.reduceAdd, List.getElem?_cons_zero, List.getElem?_cons_succ, Option.bind_some, List.map_cons, List.map_nil, Nat.zero_add, if_true, List.getD_cons_zero, List.getD_cons_succ, List.contains_cons, List.contains_nil, Nat.reduceBEq, Bool.or_true, Bool.true_or, Bool.or_false, Bool.false_or, Bool.not_true, Bool.not_false, true_and, and_true, rowA_whole, push_n, set_n, push_obj, set_obj, set_push, set_push_ne, set_set, Nat.add_assoc, Nat.left_eq_add, Nat.add_eq_left, Nat.add_left_cancel_iff, Nat.reduceEqDiff, stO_1s, stO_ws, boxA_s, one_bool, one_int, one_str, one_ptr, one_nilptr, one_slice, one_eslice, one_nilslice, one_func, one_iface, one_niliface, List.all_cons, List.all_nil, List.length_cons, List.length_nil, Nat.reduceLT, Nat.reduceEqDiff, Nat.reduceLeDiff, Bool.and_true, Nat.one_ne_zero, Nat.succ_ne_zero, reduceIte, if_false, List.getElem?_cons_zero, List.set_cons_zero, List.set_cons_succ]
      case' refine_2 => simp only [Bool.not_true] at c5; simp only [c4, c5, e1, e3, e4, go_sem, Hold.p, HoldK.k, HoldL.K, HoldL.body, Nat.reduceBEq, Nat.reduceAdd, List.getElem?_cons_zero, List.getElem?_cons_succ, Option.bind_some, List.map_cons, List.map_nil, Nat.zero_add, if_true, List.getD_cons_zero, List.getD_cons_succ, List.contains_cons, List.contains_nil, Nat.reduceBEq, Bool.or_true, Bool.true_or, Bool.or_false, Bool.false_or, Bool.not_true, Bool.not_false, true_and, and_true, rowA_whole, push_n, set_n, push_obj, set_obj, set_push, set_push_ne, set_set, Nat.add_assoc, Nat.left_eq_add, Nat.add_eq_left, Nat.add_left_cancel_iff, Nat.reduceEqDiff, stO_1s, stO_ws, boxA_s, one_bool, one_int, one_str, one_ptr, one_nilptr, one_slice, one_eslice, one_nilslice, one_func, one_iface, one_niliface, List.all_cons, List.all_nil, List.length_cons, List.length_nil, Nat.reduceLT, Nat.reduceEqDiff, Nat.reduceLeDiff, Bool.and_true, Nat.one_ne_zero, Nat.succ_ne_zero, reduceIte, if_false, List.getElem?_cons_zero, List.set_cons_zero, List.set_cons_succ]
      all_goals
        simp at c1 c2 c3 c4
        refine ⟨_, ?_, k + 1, p.to, rfl, by omega, wr64_succ k (by omega), rfl, ?_, hE.trans ((Ext.refl _).push _)⟩
        · omega
        · rw [hno]; simp [c1, c2, c3, c4, c5, *] <;> (intro; omega)
    · simp only [e1, e3, e4, hbox, go_sem, Hold.p, HoldK.k, HoldL.K, HoldL.body, Nat.reduceBEq, Nat.reduceAdd, List.getElem?_cons_zero, List.getElem?_cons_succ, Option.bind_some, List.map_cons, List.map_nil, Nat.zero_add, if_true, List.getD_cons_zero, List.getD_cons_succ, List.contains_cons, List.contains_nil, Nat.reduceBEq, Bool.or_true, Bool.true_or, Bool.or_false, Bool.false_or, Bool.not_true, Bool.not_false, true_and, and_true]
      have hkn : k = ps.length := by omega
      subst hkn
      refine ⟨?_, hE0.trans hE⟩
      rw [hrel, List.drop_length, okPs]
end Go.Proofs.Ytecljenjlncfhaa

namespace Go.Proofs.Ytecljenjlncfhaa
open Go Go.IW

set_option maxRecDepth 20000 in
theorem specBoardPipe_c (h : IH) (v : IV) (una nxt : Int) (ps : List Piece) (hs : SlR h 6 v (ps.map Piece.row)) :
    ICalls Try.prog 25 [.agg [.int .i64 una, .int .i64 nxt, v]] h fun r h' => r = .int .i64 (if okB una nxt ps then pipeOf ps else -1) ∧ Ext h h' := by
  refine icalls (.of ok25) (Nat.le_of_ble_eq_true rfl) ?_
  unfold c25
  have hv1 := hs.one
  have hlen := hs.lenF
  rw [List.length_map] at hlen
  simp only [hv1, go_sem, Hold.p, HoldK.k, HoldL.K, HoldL.body, Nat.reduceBEq, Nat.reduceAdd, List.getElem?_cons_zero, List.getElem?_cons_succ, Option.bind_some, List.map_cons, List.map_nil, Nat.zero_add, if_true, List.getD_cons_zero, List.getD_cons_succ, List.contains_cons, List.contains_nil, Nat.reduceBEq, Bool.or_true, Bool.true_or, Bool.or_false, Bool.false_or, Bool.not_true, Bool.not_false, true_and, and_true, rowA_whole, push_n, set_n, push_obj, set_obj, set_push, set_push_ne, set_set, Nat.add_assoc, Nat.left_eq_add, Nat.add_eq_left, Nat.add_left_cancel_iff, Nat.reduceEqDiff, stO_1s, stO_ws, boxA_s, one_bool, one_int, one_str, one_ptr, one_nilptr, one_slice, one_eslice, one_nilslice, one_func, one_iface, one_niliface, List.all_cons, List.all_nil, List.length_cons, List.length_nil, Nat.reduceLT, Nat.reduceEqDiff, Nat.reduceLeDiff, Bool.and_true, Nat.one_ne_zero, Nat.succ_ne_zero, reduceIte, if_false, List.getElem?_cons_zero, List.set_cons_zero, List.set_cons_succ]
  have hE : ∀ a, Ext h (h.push a) := fun a => (Ext.refl _).push _
  refine callA_of (l15OK_c _ una nxt v ps (hs.ext (hE _))) ?_
  rintro r h1 ⟨rfl, hE1⟩
  have b0 := hE1.obj h.n (by simp only [push_n]; omega)
  simp [push_obj] at b0
  cases hok : okB una nxt ps
  · simp only [hok, hv1, go_sem, Hold.p, HoldK.k, HoldL.K, HoldL.body, Nat.reduceBEq, Nat.reduceAdd, List.getElem?_cons_zero, List.getElem?_cons_succ, Option.bind_some, List.map_cons, List.map_nil, Nat.zero_add, if_true, List.getD_cons_zero, List.getD_cons_succ, List.contains_cons, List.contains_nil, Nat.reduceBEq, Bool.or_true, Bool.true_or, Bool.or_false, Bool.false_or, Bool.not_true, Bool.not_false, true_and, and_true, rowA_whole, push_n, set_n, push_obj, set_obj, set_push, set_push_ne, set_set, Nat.add_assoc, Nat.left_eq_add, Nat.add_eq_left, Nat.add_left_cancel_iff, Nat.reduceEqDiff, stO_1s, stO_ws, boxA_s, one_bool, one_int, one_str, one_ptr, one_nilptr, one_slice, one_eslice, one_nilslice, one_func, one_iface, one_niliface, List.all_cons, List.all_nil, List.length_cons, List.length_nil, Nat.reduceLT, Nat.reduceEqDiff, Nat.reduceLeDiff, Bool.and_true, Nat.one_ne_zero, Nat.succ_ne_zero, reduceIte, if_false, List.getElem?_cons_zero, List.set_cons_zero, List.set_cons_succ]
    exact ⟨rfl, (hE _).trans hE1⟩
  · obtain ⟨o1, o2, o3, o4, o5⟩ := okB_un hok
    have hEb := (hE (IObj.rows [[IV.int IntKind.i64 una, IV.int IntKind.i64 nxt, v]] 40 3 false)).trans hE1
    have hlt0 : h.n < h1.n := by have := hE1.le; simp only [push_n] at this; omega
    simp only [hok, hv1, b0, go_sem, Hold.p, HoldK.k, HoldL.K, HoldL.body, Nat.reduceBEq, Nat.reduceAdd, List.getElem?_cons_zero, List.getElem?_cons_succ, Option.bind_some, List.map_cons, List.map_nil, Nat.zero_add, if_true, List.getD_cons_zero, List.getD_cons_succ, List.contains_cons, List.contains_nil, Nat.reduceBEq, Bool.or_true, Bool.true_or, Bool.or_false, Bool.false_or, Bool.not_true, Bool.not_false, true_and, and_true, rowA_whole, push_n, set_n, push_obj, set_obj, set_push, set_push_ne, set_set, Nat.add_assoc, Nat.left_eq_add, Nat.add_eq_left, Nat.add_left_cancel_iff, Nat.reduceEqDiff, stO_1s, stO_ws, boxA_s, one_bool, one_int, one_str, one_ptr, one_nilptr, one_slice, one_eslice, one_nilslice, one_func, one_iface, one_niliface, List.all_cons, List.all_nil, List.length_cons, List.length_nil, Nat.reduceLT, Nat.reduceEqDiff, Nat.reduceLeDiff, Bool.and_true, Nat.one_ne_zero, Nat.succ_ne_zero, reduceIte, if_false, List.getElem?_cons_zero, List.set_cons_zero, List.set_cons_succ]
    refine loop_at (fun n e h' => ∃ k, n = ps.length - k ∧ k ≤ ps.length ∧ e 1 = .ptr h.n 0 0 ∧ e 4 = .int .i64 k ∧ e 3 = .int .i64 (pipeOf (ps.take k)) ∧ h' = h1) ps.length ?_ ?_
    · refine ⟨0, by omega, by omega, ?_⟩
      simp only [go_sem, Hold.p, HoldK.k, HoldL.K, HoldL.body, Nat.reduceBEq, Nat.reduceAdd, List.getElem?_cons_zero, List.getElem?_cons_succ, Option.bind_some, List.map_cons, List.map_nil, Nat.zero_add, if_true, List.getD_cons_zero, List.getD_cons_succ, List.contains_cons, List.contains_nil, Nat.reduceBEq, Bool.or_true, Bool.true_or, Bool.or_false, Bool.false_or, Bool.not_true, Bool.not_false, true_and, and_true]
      exact ⟨rfl, rfl⟩
    · rintro n e h' ⟨k, rfl, hk, e1, e4, e3, rfl⟩
      simp only [e1, e4, e3, b0, hlen, go_sem, Hold.p, HoldK.k, HoldL.K, HoldL.body, Nat.reduceBEq, Nat.reduceAdd, List.getElem?_cons_zero, List.getElem?_cons_succ, Option.bind_some, List.map_cons, List.map_nil, Nat.zero_add, if_true, List.getD_cons_zero, List.getD_cons_succ, List.contains_cons, List.contains_nil, Nat.reduceBEq, Bool.or_true, Bool.true_or, Bool.or_false, Bool.false_or, Bool.not_true, Bool.not_false, true_and, and_true]
      refine test_dec (fun hb => ?_) (fun hb => ?_)
      · simp only [e1, e4, e3, b0, hlen, go_sem, Hold.p, HoldK.k, HoldL.K, HoldL.body, Nat.reduceBEq, Nat.reduceAdd, List.getElem?_cons_zero, List.getElem?_cons_succ, Option.bind_some, List.map_cons, List.map_nil, Nat.zero_add, if_true, List.getD_cons_zero, List.getD_cons_succ, List.contains_cons, List.contains_nil, Nat.reduceBEq, Bool.or_true, Bool.true_or, Bool.or_false, Bool.false_or, Bool.not_true, Bool.not_false, true_and, and_true]
        have hlt' : k < ps.length := by omega
        have hkp : ps[k]? = some ps[k] := List.getElem?_eq_getElem hlt'
        have hmem : ps[k] ∈ ps := List.getElem_mem _
        generalize ps[k] = p at hkp hmem
        have hpb := (okPs_bound o5).2.1 p hmem
        have hkr : (ps.map Piece.row)[k]? = some p.row := by rw [List.getElem?_map, hkp]; rfl
        have htk := pipeOf_take o5 k
        have hsu := pipeOf_succ hkp
        have hw1 : wr .i64 (pipeOf (ps.take k) + p.to) = pipeOf (ps.take k) + p.to := wr64 _ (by omega)
        have hw2 : wr .i64 (pipeOf (ps.take k) + p.to - p.fr) = pipeOf (ps.take k) + p.to - p.fr := wr64 _ (by omega)
        obtain ⟨l, j, hia, hll, hrow⟩ := (hs.ext hEb).at (m := k) (row := p.row) hkr .i64
        unfold Piece.row at hrow
        have hc := cellO_row hrow
        refine got_of hia ?_
        simp only [hc, e1, e4, e3, b0, go_sem, Hold.p, HoldK.k, HoldL.K, HoldL.body, Nat.reduceBEq, Nat.reduceAdd, List.getElem?_cons_zero, List.getElem?_cons_succ, Option.bind_some, List.map_cons, List.map_nil, Nat.zero_add, if_true, List.getD_cons_zero, List.getD_cons_succ, List.contains_cons, List.contains_nil, Nat.reduceBEq, Bool.or_true, Bool.true_or, Bool.or_false, Bool.false_or, Bool.not_true, Bool.not_false, true_and, and_true, rowA_whole, push_n, set_n, push_obj, set_obj, set_push, set_push_ne, set_set, Nat.add_assoc, Nat.left_eq_add, Nat.add_eq_left, Nat.add_left_cancel_iff, Nat.reduceEqDiff, stO_1s, stO_ws, boxA_s, one_bool, one_int, one_str, one_ptr, one_nilptr, one_slice, one_eslice, one_nilslice, one_func, one_iface, one_niliface, List.all_cons, List.all_nil, List.length_cons, List.length_nil, Nat.reduceLT, Nat.reduceEqDiff, Nat.reduceLeDiff, Bool.and_true, Nat.one_ne_zero, Nat.succ_ne_zero, reduceIte, if_false, List.getElem?_cons_zero, List.set_cons_zero, List.set_cons_succ]
        refine guard_of (fun c1 => ?_) (fun c1 => ?_)
        · simp only [hc, c1, e1, e4, e3, b0, go_sem, Hold.p, HoldK.k, HoldL.K, HoldL.body, Nat.reduceBEq, Nat.reduceAdd, List.getElem?_cons_zero, List.getElem?_cons_succ, Option.bind_some, List.map_cons, List.map_nil, Nat.zero_add, if_true, List.getD_cons_zero, List.getD_cons_succ, List.contains_cons, List.contains_nil, Nat.reduceBEq, Bool.or_true, Bool.true_or, Bool.or_false, Bool.false_or, Bool.not_true, Bool.not_false, true_and, and_true, rowA_whole, push_n, set_n, push_obj, set_obj, set_push, set_push_ne, set_set, Nat.add_assoc, Nat.left_eq_add, Nat.add_eq_left, Nat.add_left_cancel_iff, Nat.reduceEqDiff, stO_1s, stO_ws, boxA_s, one_bool, one_int, one_str, one_ptr, one_nilptr, one_slice, one_eslice, one_nilslice, one_func, one_iface, one_niliface, List.all_cons, List.all_nil, List.length_cons, List.length_nil, Nat.reduceLT, Nat.reduceEqDiff, Nat.reduceLeDiff, Bool.and_true, Nat.one_ne_zero, Nat.succ_ne_zero, reduceIte, if_false, List.getElem?_cons_zero, List.set_cons_zero, List.set_cons_succ]
          refine got_of hia ?_
          simp only [hc, c1, e1, e4, e3, b0, go_sem, Hold.p, HoldK.k, HoldL.K, HoldL.body, Nat.reduceBEq, Nat.reduceAdd, List.getElem?_cons_zero, List.getElem?_cons_succ, Option.bind_some, List.map_cons, List.map_nil, Nat.zero_add, if_true, List.getD_cons_zero, List.getD_cons_succ, List.contains_cons, List.contains_nil, Nat.reduceBEq, Bool.or_true, Bool.true_or, Bool.or_false, Bool.false_or, Bool.not_true, Bool.not_false, true_and, and_true, rowA_whole, push_n, set_n, push_obj, set_obj, set_push, set_push_ne, set_set, Nat.add_assoc, Nat.left_eq_add, Nat.add_eq_left, Nat.add_left_cancel_iff, Nat.reduceEqDiff, stO_1s, stO_ws, boxA_s, one_bool, one_int, one_str, one_ptr, one_nilptr, one_slice, one_eslice, one_nilslice, one_func, one_iface, one_niliface, List.all_cons, List.all_nil, List.length_cons, List.length_nil, Nat.reduceLT, Nat.reduceEqDiff, Nat.reduceLeDiff, Bool.and_true, Nat.one_ne_zero, Nat.succ_ne_zero, reduceIte, if_false, List.getElem?_cons_zero, List.set_cons_zero, List.set_cons_succ]
          cases c2 : p.lost
          · simp only [hc, c1, c2, e1, e4, e3, b0, go_sem, Hold.p, HoldK.k, HoldL.K, HoldL.body, Nat.reduceBEq, Nat.reduceAdd, List.getElem?_cons_zero, List.getElem?_cons_succ, Option.bind_some, List.map_cons, List.map_nil, Nat.zero_add, if_true, List.getD_cons_zero, List.getD_cons_succ, List.contains_cons, List.contains_nil, Nat.reduceBEq, Bool.or_true, Bool.true_or, Bool.or_false, Bool.false_or, Bool.not_true, Bool.not_false, true_and, and_true, rowA_whole, push_n, set_n, push_obj, set_obj, set_push, set_push_ne, set_set, Nat.add_assoc, Nat.left_eq_add, Nat.add_eq_left, Nat.add_left_cancel_iff, Nat.reduceEqDiff, stO_1s, stO_ws, boxA_s, one_bool, one_int, one_str, one_ptr, one_nilptr, one_slice, one_eslice, one_nilslice, one_func, one_iface, one_niliface, List.all_cons, List.all_nil, List.length_cons, List.length_nil, Nat.reduceLT, Nat.reduceEqDiff, Nat.reduceLeDiff, Bool.and_true, Nat.one_ne_zero, Nat.succ_ne_zero, reduceIte, if_false, List.getElem?_cons_zero, List.set_cons_zero, List.set_cons_succ]
            refine got_of hia ?_
            simp only [hc, c1, c2, e1, e4, e3, b0, go_sem, Hold.p, HoldK.k, HoldL.K, HoldL.body, Nat.reduceBEq, Nat.reduceAdd, List.getElem?_cons_zero, List.getElem?_cons_succ, Option.bind_some, List.map_cons, List.map_nil, Nat.zero_add, if_true, List.getD_cons_zero, List.getD_cons_succ, List.contains_cons, List.contains_nil, Nat.reduceBEq, Bool.or_true, Bool.true_or, Bool.or_false, Bool.false_or, Bool.not_true, Bool.not_false, true_and, and_true, rowA_whole, push_n, set_n, push_obj, set_obj, set_push, set_push_ne, set_set, Nat.add_assoc, Nat.left_eq_add, Nat.add_eq_left, Nat.add_left_cancel_iff, Nat.reduceEqDiff, stO_1s, stO_ws, boxA_s, one_bool, one_int, one_str, one_ptr, one_nilptr, one_slice, one_eslice, one_nilslice, one_func, one_iface, one_niliface, List.all_cons, List.all_nil, List.length_cons, List.length_nil, Nat.reduceLT, Nat.reduceEqDiff, Nat.reduceLeDiff, Bool.and_true, Nat.one_ne_zero, Nat.succ_ne_zero, reduceIte, if_false, List.getElem?_cons_zero, List.set_cons_zero, List.set_cons_succ]
            refine got_of hia ?_
            simp only [hc, c1, c2, e1, e4, e3, b0, hw1, hw2, go_sem, Hold.p, HoldK.k, HoldL.K, HoldL.body, Nat.reduceBEq, Nat.reduceAdd, List.getElem?_cons_zero, List.getElem?_cons_succ, Option.bind_some, List.map_cons, List.map_nil, Nat.zero_add, if_true, List.getD_cons_zero, List.getD_cons_succ, List.contains_cons, List.contains_nil, Nat.reduceBEq, Bool.or_true, Bool.true_or, Bool.or_false, Bool.false_or, Bool.not_true, Bool.not_false, true_and, and_true, rowA_whole, push_n, set_n, push_obj, set_obj, set_push, set_push_ne, set_set, Nat.add_assoc, Nat.left_eq_add, Nat.add_eq_left, Nat.add_left_cancel_iff, Nat.reduceEqDiff, stO_1s, stO_ws, boxA_s, one_bool, one_int, one_str, one_ptr, one_nilptr, one_slice, one_eslice, one_nilslice, one_func, one_iface, one_niliface, List.all_cons, List.all_nil, List.length_cons, List.length_nil, Nat.reduceLT, Nat.reduceEqDiff, Nat.reduceLeDiff, Bool.and_true, Nat.one_ne_zero, Nat.succ_ne_zero, reduceIte, if_false, List.getElem?_cons_zero, List.set_cons_zero, List.set_cons_succ]
            refine ⟨_, ?_, k + 1, rfl, by omega, wr64_succ k (by omega), ?_⟩
            · omega
            · rw [hsu]; simp at c1; simp [c1, c2]; omega
          · simp only [hc, c1, c2, e1, e4, e3, b0, go_sem, Hold.p, HoldK.k, HoldL.K, HoldL.body, Nat.reduceBEq, Nat.reduceAdd, List.getElem?_cons_zero, List.getElem?_cons_succ, Option.bind_some, List.map_cons, List.map_nil, Nat.zero_add, if_true, List.getD_cons_zero, List.getD_cons_succ, List.contains_cons, List.contains_nil, Nat.reduceBEq, Bool.or_true, Bool.true_or, Bool.or_false, Bool.false_or, Bool.not_true, Bool.not_false, true_and, and_true, rowA_whole, push_n, set_n, push_obj, set_obj, set_push, set_push_ne, set_set, Nat.add_assoc, Nat.left_eq_add, Nat.add_eq_left, Nat.add_left_cancel_iff, Nat.reduceEqDiff, stO_1s, stO_ws, boxA_s, one_bool, one_int, one_str, one_ptr, one_nilptr, one_slice, one_eslice, one_nilslice, one_func, one_iface, one_niliface, List.all_cons, List.all_nil, List.length_cons, List.length_nil, Nat.reduceLT, Nat.reduceEqDiff, Nat.reduceLeDiff, Bool.and_true, Nat.one_ne_zero, Nat.succ_ne_zero, reduceIte, if_false, List.getElem?_cons_zero, List.set_cons_zero, List.set_cons_succ]
            refine ⟨_, ?_, k + 1, rfl, by omega, wr64_succ k (by omega), ?_⟩
            · omega
            · rw [hsu]; simp [c2]
        · simp only [hc, c1, e1, e4, e3, b0, go_sem, Hold.p, HoldK.k, HoldL.K, HoldL.body, Nat.reduceBEq, Nat.reduceAdd, List.getElem?_cons_zero, List.getElem?_cons_succ, Option.bind_some, List.map_cons, List.map_nil, Nat.zero_add, if_true, List.getD_cons_zero, List.getD_cons_succ, List.contains_cons, List.contains_nil, Nat.reduceBEq, Bool.or_true, Bool.true_or, Bool.or_false, Bool.false_or, Bool.not_true, Bool.not_false, true_and, and_true, rowA_whole, push_n, set_n, push_obj, set_obj, set_push, set_push_ne, set_set, Nat.add_assoc, Nat.left_eq_add, Nat.add_eq_left, Nat.add_left_cancel_iff, Nat.reduceEqDiff, stO_1s, stO_ws, boxA_s, one_bool, one_int, one_str, one_ptr, one_nilptr, one_slice, one_eslice, one_nilslice, one_func, one_iface, one_niliface, List.all_cons, List.all_nil, List.length_cons, List.length_nil, Nat.reduceLT, Nat.reduceEqDiff, Nat.reduceLeDiff, Bool.and_true, Nat.one_ne_zero, Nat.succ_ne_zero, reduceIte, if_false, List.getElem?_cons_zero, List.set_cons_zero, List.set_cons_succ]
          refine ⟨_, ?_, k + 1, rfl, by omega, wr64_succ k (by omega), ?_⟩
          · omega
          · rw [hsu]; simp at c1; simp [c1]
      · simp only [e1, e4, e3, go_sem, Hold.p, HoldK.k, HoldL.K, HoldL.body, Nat.reduceBEq, Nat.reduceAdd, List.getElem?_cons_zero, List.getElem?_cons_succ, Option.bind_some, List.map_cons, List.map_nil, Nat.zero_add, if_true, List.getD_cons_zero, List.getD_cons_succ, List.contains_cons, List.contains_nil, Nat.reduceBEq, Bool.or_true, Bool.true_or, Bool.or_false, Bool.false_or, Bool.not_true, Bool.not_false, true_and, and_true]
        obtain rfl : k = ps.length := by omega
        refine ⟨?_, hEb⟩
        rw [List.take_length]
        try rfl
end Go.Proofs.Ytecljenjlncfhaa

namespace Go.Proofs.Ytecljenjlncfhaa
open Go Go.IW

def shPiece : Sh := .cat (.int .i64) (.cat (.int .i64) (.cat (.int .i64) (.cat (.int .i64) (.cat .bool (.cat .bool .nil)))))
def shBoard : Sh := .cat (.int .i64) (.cat (.int .i64) (.cat (.slice shPiece) .nil))

theorem fits_piece {h : IH} {r : List IV} (hf : Fits h shPiece r) : ∃ p : Piece, r = p.row := by
  obtain ⟨_, _, rfl, ⟨a, rfl, _⟩, _, _, rfl, ⟨b, rfl, _⟩, _, _, rfl, ⟨c, rfl, _⟩, _, _, rfl, ⟨d, rfl, _⟩, _, _, rfl, ⟨e, rfl⟩, _, _, rfl, ⟨f, rfl⟩, rfl⟩ := hf
  exact ⟨⟨a, b, c, d, e, f⟩, rfl⟩
theorem all_rows {α : Type} {f : α → List IV} : ∀ {rs : List (List IV)}, (∀ r ∈ rs, ∃ p, r = f p) → ∃ ps : List α, rs = ps.map f
  | [], _ => ⟨[], rfl⟩
  | r :: rs, h => by
    obtain ⟨p, rfl⟩ := h r (by simp)
    obtain ⟨ps, rfl⟩ := all_rows (rs := rs) (fun r hr => h r (by simp [hr]))
    exact ⟨p :: ps, rfl⟩
theorem fits_board {h : IH} {cs : List IV} (hf : Fits h shBoard cs) : ∃ (una nxt : Int) (v : IV) (ps : List Piece), cs = [.int .i64 una, .int .i64 nxt, v] ∧ SlR h 6 v (ps.map Piece.row) ∧ ps.length ≤ maxLen := by
  obtain ⟨_, _, rfl, ⟨a, rfl, _⟩, _, _, rfl, ⟨b, rfl, _⟩, _, _, rfl, ⟨v, rs, rfl, hs, hm, hr⟩, rfl⟩ := hf
  obtain ⟨ps, rfl⟩ := all_rows (f := Piece.row) (fun r hx => fits_piece (hr r hx))
  exact ⟨a, b, v, ps, rfl, hs, by simpa using hm⟩

set_option maxRecDepth 20000 in
theorem lawBoardPipe : LawTrue Try.prog 6 [(shBoard, true)] := by
  rintro h ivs ha ⟨iv, r, rfl, ⟨cs, rfl, hf⟩, rfl⟩
  obtain ⟨una, nxt, v, ps, rfl, hs, hm⟩ := fits_board hf
  refine icalls (.of ok6) (Nat.le_of_ble_eq_true rfl) ?_
  unfold c6
  have hv1 := hs.one
  simp only [hv1, go_sem, Hold.p, HoldK.k, HoldL.K, HoldL.body, Nat.reduceBEq, Nat.reduceAdd, List.getElem?_cons_zero, List.getElem?_cons_succ, Option.bind_some, List.map_cons, List.map_nil, Nat.zero_add, if_true, List.getD_cons_zero, List.getD_cons_succ, List.contains_cons, List.contains_nil, Nat.reduceBEq, Bool.or_true, Bool.true_or, Bool.or_false, Bool.false_or, Bool.not_true, Bool.not_false, true_and, and_true, rowA_whole, push_n, set_n, push_obj, set_obj, set_push, set_push_ne, set_set, Nat.add_assoc, Nat.left_eq_add, Nat.add_eq_left, Nat.add_left_cancel_iff, Nat.reduceEqDiff, stO_1s, stO_ws, boxA_s, one_bool, one_int, one_str, one_ptr, one_nilptr, one_slice, one_eslice, one_nilslice, one_func, one_iface, one_niliface, List.all_cons, List.all_nil, List.length_cons, List.length_nil, Nat.reduceLT, Nat.reduceEqDiff, Nat.reduceLeDiff, Bool.and_true, Nat.one_ne_zero, Nat.succ_ne_zero, reduceIte, if_false, List.getElem?_cons_zero, List.set_cons_zero, List.set_cons_succ]
  have hE : ∀ a, Ext h (h.push a) := fun a => (Ext.refl _).push _
  refine callA_of (szBoard_c _ v una nxt _ 1048576 (hs.ext (hE _)) (by omega) (by simpa using hm)) ?_
  rintro r h1 ⟨rfl, hE1⟩
  rw [List.length_map]
  have b0 := hE1.obj h.n (by simp only [push_n]; omega)
  simp [push_obj] at b0
  have hlt0 : h.n < h1.n := by have := hE1.le; simp only [push_n] at this; omega
  have hs1 := (hs.ext (hE _)).ext hE1
  by_cases hbig : (1048576 : Int) < ps.length
  · rw [if_pos hbig]
    have hn : decide ((-1 : Int) < 0) = true := rfl
    simp only [hn, go_sem, Hold.p, HoldK.k, HoldL.K, HoldL.body, Nat.reduceBEq, Nat.reduceAdd, List.getElem?_cons_zero, List.getElem?_cons_succ, Option.bind_some, List.map_cons, List.map_nil, Nat.zero_add, if_true, List.getD_cons_zero, List.getD_cons_succ, List.contains_cons, List.contains_nil, Nat.reduceBEq, Bool.or_true, Bool.true_or, Bool.or_false, Bool.false_or, Bool.not_true, Bool.not_false, true_and, and_true, rowA_whole, push_n, set_n, push_obj, set_obj, set_push, set_push_ne, set_set, Nat.add_assoc, Nat.left_eq_add, Nat.add_eq_left, Nat.add_left_cancel_iff, Nat.reduceEqDiff, stO_1s, stO_ws, boxA_s, one_bool, one_int, one_str, one_ptr, one_nilptr, one_slice, one_eslice, one_nilslice, one_func, one_iface, one_niliface, List.all_cons, List.all_nil, List.length_cons, List.length_nil, Nat.reduceLT, Nat.reduceEqDiff, Nat.reduceLeDiff, Bool.and_true, Nat.one_ne_zero, Nat.succ_ne_zero, reduceIte, if_false, List.getElem?_cons_zero, List.set_cons_zero, List.set_cons_succ]
  · rw [if_neg hbig]
    have hn : decide ((1048576 : Int) - (ps.length : Int) < 0) = false := by simp; omega
    have hlen : ps.length ≤ 1048576 := by omega
    simp only [hn, b0, go_sem, Hold.p, HoldK.k, HoldL.K, HoldL.body, Nat.reduceBEq, Nat.reduceAdd, List.getElem?_cons_zero, List.getElem?_cons_succ, Option.bind_some, List.map_cons, List.map_nil, Nat.zero_add, if_true, List.getD_cons_zero, List.getD_cons_succ, List.contains_cons, List.contains_nil, Nat.reduceBEq, Bool.or_true, Bool.true_or, Bool.or_false, Bool.false_or, Bool.not_true, Bool.not_false, true_and, and_true, rowA_whole, push_n, set_n, push_obj, set_obj, set_push, set_push_ne, set_set, Nat.add_assoc, Nat.left_eq_add, Nat.add_eq_left, Nat.add_left_cancel_iff, Nat.reduceEqDiff, stO_1s, stO_ws, boxA_s, one_bool, one_int, one_str, one_ptr, one_nilptr, one_slice, one_eslice, one_nilslice, one_func, one_iface, one_niliface, List.all_cons, List.all_nil, List.length_cons, List.length_nil, Nat.reduceLT, Nat.reduceEqDiff, Nat.reduceLeDiff, Bool.and_true, Nat.one_ne_zero, Nat.succ_ne_zero, reduceIte, if_false, List.getElem?_cons_zero, List.set_cons_zero, List.set_cons_succ]
    refine callA_of (toBoard_c _ v una nxt ps hs1 hlen) ?_
    rintro r h2 ⟨v2, rfl, ho2, hE2⟩
    have b2 := (hE2.obj h.n hlt0).trans b0
    simp only [hn, go_sem, Hold.p, HoldK.k, HoldL.K, HoldL.body, Nat.reduceBEq, Nat.reduceAdd, List.getElem?_cons_zero, List.getElem?_cons_succ, Option.bind_some, List.map_cons, List.map_nil, Nat.zero_add, if_true, List.getD_cons_zero, List.getD_cons_succ, List.contains_cons, List.contains_nil, Nat.reduceBEq, Bool.or_true, Bool.true_or, Bool.or_false, Bool.false_or, Bool.not_true, Bool.not_false, true_and, and_true, rowA_whole, push_n, set_n, push_obj, set_obj, set_push, set_push_ne, set_set, Nat.add_assoc, Nat.left_eq_add, Nat.add_eq_left, Nat.add_left_cancel_iff, Nat.reduceEqDiff, stO_1s, stO_ws, boxA_s, one_bool, one_int, one_str, one_ptr, one_nilptr, one_slice, one_eslice, one_nilslice, one_func, one_iface, one_niliface, List.all_cons, List.all_nil, List.length_cons, List.length_nil, Nat.reduceLT, Nat.reduceEqDiff, Nat.reduceLeDiff, Bool.and_true, Nat.one_ne_zero, Nat.succ_ne_zero, reduceIte, if_false, List.getElem?_cons_zero, List.set_cons_zero, List.set_cons_succ]
    refine callA_of (specBoardPipe_c _ v2 una nxt ps ho2.sl) ?_
    rintro r h3 ⟨rfl, hE3⟩
    have hlt2 := hE2.le
    have b3 := (hE3.obj h.n (by omega)).trans b2
    simp only [hn, b3, go_sem, Hold.p, HoldK.k, HoldL.K, HoldL.body, Nat.reduceBEq, Nat.reduceAdd, List.getElem?_cons_zero, List.getElem?_cons_succ, Option.bind_some, List.map_cons, List.map_nil, Nat.zero_add, if_true, List.getD_cons_zero, List.getD_cons_succ, List.contains_cons, List.contains_nil, Nat.reduceBEq, Bool.or_true, Bool.true_or, Bool.or_false, Bool.false_or, Bool.not_true, Bool.not_false, true_and, and_true, rowA_whole, push_n, set_n, push_obj, set_obj, set_push, set_push_ne, set_set, Nat.add_assoc, Nat.left_eq_add, Nat.add_eq_left, Nat.add_left_cancel_iff, Nat.reduceEqDiff, stO_1s, stO_ws, boxA_s, one_bool, one_int, one_str, one_ptr, one_nilptr, one_slice, one_eslice, one_nilslice, one_func, one_iface, one_niliface, List.all_cons, List.all_nil, List.length_cons, List.length_nil, Nat.reduceLT, Nat.reduceEqDiff, Nat.reduceLeDiff, Bool.and_true, Nat.one_ne_zero, Nat.succ_ne_zero, reduceIte, if_false, List.getElem?_cons_zero, List.set_cons_zero, List.set_cons_succ]
    have hlt3 := hE3.le
    refine callA_of (toBoard_c _ v una nxt ps ((hs1.ext hE2).ext hE3) hlen) ?_
    rintro r h4 ⟨v4, rfl, ho4, hE4⟩
    have b4 := (hE4.obj h.n (by omega)).trans b3
    have ho41 := ho4.one
    have hlt4 := hE4.le
    simp only [hn, b4, ho41, go_sem, Hold.p, HoldK.k, HoldL.K, HoldL.body, Nat.reduceBEq, Nat.reduceAdd, List.getElem?_cons_zero, List.getElem?_cons_succ, Option.bind_some, List.map_cons, List.map_nil, Nat.zero_add, if_true, List.getD_cons_zero, List.getD_cons_succ, List.contains_cons, List.contains_nil, Nat.reduceBEq, Bool.or_true, Bool.true_or, Bool.or_false, Bool.false_or, Bool.not_true, Bool.not_false, true_and, and_true, rowA_whole, push_n, set_n, push_obj, set_obj, set_push, set_push_ne, set_set, Nat.add_assoc, Nat.left_eq_add, Nat.add_eq_left, Nat.add_left_cancel_iff, Nat.reduceEqDiff, stO_1s, stO_ws, boxA_s, one_bool, one_int, one_str, one_ptr, one_nilptr, one_slice, one_eslice, one_nilslice, one_func, one_iface, one_niliface, List.all_cons, List.all_nil, List.length_cons, List.length_nil, Nat.reduceLT, Nat.reduceEqDiff, Nat.reduceLeDiff, Bool.and_true, Nat.one_ne_zero, Nat.succ_ne_zero, reduceIte, if_false, List.getElem?_cons_zero, List.set_cons_zero, List.set_cons_succ]
    have hE5 : ∀ o, Ext h4 (h4.push o) := fun o => (Ext.refl _).push _
    refine callA_of (implBoardPipe_c _ v4 una nxt ps (ho4.sl.ext (hE5 _))) ?_
    rintro r h6 ⟨rfl, hE6⟩
    have hlt6 := hE6.le
    simp only [push_n] at hlt6
    have b6 := (hE6.obj h.n (by simp only [push_n]; omega)).trans ((push_old _ _ _ (by omega)).trans b4)
    have x6 := (hE6.obj h4.n (by simp only [push_n]; omega)).trans (push_new _ _)
    simp only [b6, x6, decide_true, go_sem, Hold.p, HoldK.k, HoldL.K, HoldL.body, Nat.reduceBEq, Nat.reduceAdd, List.getElem?_cons_zero, List.getElem?_cons_succ, Option.bind_some, List.map_cons, List.map_nil, Nat.zero_add, if_true, List.getD_cons_zero, List.getD_cons_succ, List.contains_cons, List.contains_nil, Nat.reduceBEq, Bool.or_true, Bool.true_or, Bool.or_false, Bool.false_or, Bool.not_true, Bool.not_false, true_and, and_true, rowA_whole, push_n, set_n, push_obj, set_obj, set_push, set_push_ne, set_set, Nat.add_assoc, Nat.left_eq_add, Nat.add_eq_left, Nat.add_left_cancel_iff, Nat.reduceEqDiff, stO_1s, stO_ws, boxA_s, one_bool, one_int, one_str, one_ptr, one_nilptr, one_slice, one_eslice, one_nilslice, one_func, one_iface, one_niliface, List.all_cons, List.all_nil, List.length_cons, List.length_nil, Nat.reduceLT, Nat.reduceEqDiff, Nat.reduceLeDiff, Bool.and_true, Nat.one_ne_zero, Nat.succ_ne_zero, reduceIte, if_false, List.getElem?_cons_zero, List.set_cons_zero, List.set_cons_succ]
    refine callA_of (toBoard_c _ v una nxt ps (((((hs1.ext hE2).ext hE3).ext hE4).ext (hE5 _)).ext hE6) hlen) ?_
    rintro r h7 ⟨v7, rfl, ho7, hE7⟩
    have x7 := (hE7.obj h4.n (by omega)).trans x6
    simp only [x7, go_sem, Hold.p, HoldK.k, HoldL.K, HoldL.body, Nat.reduceBEq, Nat.reduceAdd, List.getElem?_cons_zero, List.getElem?_cons_succ, Option.bind_some, List.map_cons, List.map_nil, Nat.zero_add, if_true, List.getD_cons_zero, List.getD_cons_succ, List.contains_cons, List.contains_nil, Nat.reduceBEq, Bool.or_true, Bool.true_or, Bool.or_false, Bool.false_or, Bool.not_true, Bool.not_false, true_and, and_true, rowA_whole, push_n, set_n, push_obj, set_obj, set_push, set_push_ne, set_set, Nat.add_assoc, Nat.left_eq_add, Nat.add_eq_left, Nat.add_left_cancel_iff, Nat.reduceEqDiff, stO_1s, stO_ws, boxA_s, one_bool, one_int, one_str, one_ptr, one_nilptr, one_slice, one_eslice, one_nilslice, one_func, one_iface, one_niliface, List.all_cons, List.all_nil, List.length_cons, List.length_nil, Nat.reduceLT, Nat.reduceEqDiff, Nat.reduceLeDiff, Bool.and_true, Nat.one_ne_zero, Nat.succ_ne_zero, reduceIte, if_false, List.getElem?_cons_zero, List.set_cons_zero, List.set_cons_succ]
    refine callA_of (eqBoard_c _ v4 v7 una nxt ps (((ho4.sl.ext (hE5 _)).ext hE6).ext hE7) ho7.sl hlen) ?_
    rintro r h8 ⟨rfl, hE8⟩
    simp only [go_sem, Hold.p, HoldK.k, HoldL.K, HoldL.body, Nat.reduceBEq, Nat.reduceAdd, List.getElem?_cons_zero, List.getElem?_cons_succ, Option.bind_some, List.map_cons, List.map_nil, Nat.zero_add, if_true, List.getD_cons_zero, List.getD_cons_succ, List.contains_cons, List.contains_nil, Nat.reduceBEq, Bool.or_true, Bool.true_or, Bool.or_false, Bool.false_or, Bool.not_true, Bool.not_false, true_and, and_true, rowA_whole, push_n, set_n, push_obj, set_obj, set_push, set_push_ne, set_set, Nat.add_assoc, Nat.left_eq_add, Nat.add_eq_left, Nat.add_left_cancel_iff, Nat.reduceEqDiff, stO_1s, stO_ws, boxA_s, one_bool, one_int, one_str, one_ptr, one_nilptr, one_slice, one_eslice, one_nilslice, one_func, one_iface, one_niliface, List.all_cons, List.all_nil, List.length_cons, List.length_nil, Nat.reduceLT, Nat.reduceEqDiff, Nat.reduceLeDiff, Bool.and_true, Nat.one_ne_zero, Nat.succ_ne_zero, reduceIte, if_false, List.getElem?_cons_zero, List.set_cons_zero, List.set_cons_succ]
end Go.Proofs.Ytecljenjlncfhaa

namespace Go.Proofs.Ytecljenjlncfhaa
open Go Go.IW

abbrev PSl : IH → IV → List Piece → FP → Prop := Sl (Flat Piece.row) 6
theorem piece_loc : Locl 6 (Flat Piece.row) := Flat.loc (fun _ => rfl) (fun p => by simp [Piece.row, IV.one])

def markP (k : Nat) : Piece := ⟨(k : Nat), (k + 1 : Nat), (k + 2 : Nat), (k + 3 : Nat), decide (((k + 4 : Nat) : Int).tmod 3 = 0), decide (((k + 5 : Nat) : Int).tmod 3 = 0)⟩

/-- Places of a list: the whole of one object. -/
def Mine (h : IH) (fs : FP) : Prop := ∀ p ∈ fs, (h.obj p.1).own = true

set_option maxRecDepth 20000 in
theorem markPieceS_c (h : IH) (l n k0 e0 : Nat) (rs : List (List IV)) (hn : rs.length = n) (h0 : n ≠ 0) (hob : h.obj l = .rows rs e0 6 false) (hl : l < h.n)
    (hrs : ∀ r ∈ rs, r.length = 6) (hk : k0 + 6 * n < 4611686018427387904) :
    ICalls Try.prog 75 [.slice l 0 n, .int .i64 k0] h fun r h' => r = .int .i64 ((k0 + 6 * n : Nat) : Int) ∧ h' = h.set l (.rows ((List.range n).map fun j => (markP (k0 + 6 * j)).row) e0 6 false) := by
  refine icalls (.of ok75) (Nat.le_of_ble_eq_true rfl) ?_
  unfold c75
  simp only [go_sem, Hold.p, HoldK.k, HoldL.K, HoldL.body, Nat.reduceBEq, Nat.reduceAdd, List.getElem?_cons_zero, List.getElem?_cons_succ, Option.bind_some, List.map_cons, List.map_nil, Nat.zero_add, if_true, List.getD_cons_zero, List.getD_cons_succ, List.contains_cons, List.contains_nil, Nat.reduceBEq, Bool.or_true, Bool.true_or, Bool.or_false, Bool.false_or, Bool.not_true, Bool.not_false, true_and, and_true]
  refine loop_at (fun m e h' => ∃ k, m = n - k ∧ k ≤ n ∧ e 0 = .slice l 0 n ∧ e 1 = .int .i64 ((k0 + 6 * k : Nat) : Int) ∧ e 5 = .int .i64 k ∧
    h' = h.set l (.rows (((List.range n).map fun j => (markP (k0 + 6 * j)).row).take k ++ rs.drop k) e0 6 false)) n ?_ ?_
  · refine ⟨0, by omega, by omega, ?_⟩
    simp only [go_sem, Hold.p, HoldK.k, HoldL.K, HoldL.body, Nat.reduceBEq, Nat.reduceAdd, List.getElem?_cons_zero, List.getElem?_cons_succ, Option.bind_some, List.map_cons, List.map_nil, Nat.zero_add, if_true, List.getD_cons_zero, List.getD_cons_succ, List.contains_cons, List.contains_nil, Nat.reduceBEq, Bool.or_true, Bool.true_or, Bool.or_false, Bool.false_or, Bool.not_true, Bool.not_false, true_and, and_true]
    exact ⟨by simp, rfl, (set_self (by simpa using hob)).symm⟩
  · rintro m e h' ⟨k, rfl, hkn, e0', e1, e5, rfl⟩
    simp only [e0', e1, e5, go_sem, Hold.p, HoldK.k, HoldL.K, HoldL.body, Nat.reduceBEq, Nat.reduceAdd, List.getElem?_cons_zero, List.getElem?_cons_succ, Option.bind_some, List.map_cons, List.map_nil, Nat.zero_add, if_true, List.getD_cons_zero, List.getD_cons_succ, List.contains_cons, List.contains_nil, Nat.reduceBEq, Bool.or_true, Bool.true_or, Bool.or_false, Bool.false_or, Bool.not_true, Bool.not_false, true_and, and_true]
    refine test_dec (fun hb => ?_) (fun hb => ?_)
    · have hkn' : k < n := by omega
      obtain ⟨row, hrow⟩ : ∃ row, rs[k]? = some row := ⟨rs[k], List.getElem?_eq_getElem (by omega)⟩
      have hrl : row.length = 6 := hrs row (List.mem_of_getElem? hrow)
      match row, hrl with
      | [a0, a1, a2, a3, a4, a5], _ =>
      generalize hh : h.set l (.rows (((List.range n).map fun j => (markP (k0 + 6 * j)).row).take k ++ rs.drop k) e0 6 false) = h1
      have hob1 : h1.obj l = .rows (((List.range n).map fun j => (markP (k0 + 6 * j)).row).take k ++ rs.drop k) e0 6 false := by rw [← hh, set_here]
      have hr1 : rowO (h1.obj l) k = some [a0, a1, a2, a3, a4, a5] := by
        rw [hob1]
        show (_ ++ _)[k]? = _
        rw [List.getElem?_append_right (by simp; omega)]
        simp [hkn, hrow]
      have hia : iadrF h1 6 (.slice l 0 n) (.int .i64 k) = some (.ptr l k 0) := by
        rw [iadrF_nat hkn' (by rw [hob1]; rfl), Nat.zero_add]
      rw [← put_self hr1]
      have hr2 : (rowO (h1.obj l) k).isSome = true := by rw [hr1]; rfl
      have ho1 : (h1.obj l).own = true := by rw [hob1]; rfl
      generalize hq : k0 + 6 * k = q at e1
      have hq' : q + 6 < 4611686018427387904 := by omega
      have w0 : wr .i64 (((q : Nat) : Int) + 1) = ((q + 1 : Nat) : Int) := by rw [wr64 _ (by omega)]; rfl
      have w1 : wr .i64 (((q + 1 : Nat) : Int) + 1) = ((q + 2 : Nat) : Int) := by rw [wr64 _ (by omega)]; rfl
      have w2 : wr .i64 (((q + 2 : Nat) : Int) + 1) = ((q + 3 : Nat) : Int) := by rw [wr64 _ (by omega)]; rfl
      have w3 : wr .i64 (((q + 3 : Nat) : Int) + 1) = ((q + 4 : Nat) : Int) := by rw [wr64 _ (by omega)]; rfl
      have w4 : wr .i64 (((q + 4 : Nat) : Int) + 1) = ((q + 5 : Nat) : Int) := by rw [wr64 _ (by omega)]; rfl
      have w5 : wr .i64 (((q + 5 : Nat) : Int) + 1) = ((q + 6 : Nat) : Int) := by rw [wr64 _ (by omega)]; rfl
      simp only [e0', e1, e5, hia, iadrF_put, stA_put1 hr2 ho1, put_put, w0, w1, w2, w3, w4, w5, ib_rem _ _ _ (by decide : (3 : Int) ≠ 0), go_sem, Hold.p, HoldK.k, HoldL.K, HoldL.body, Nat.reduceBEq, Nat.reduceAdd, List.getElem?_cons_zero, List.getElem?_cons_succ, Option.bind_some, List.map_cons, List.map_nil, Nat.zero_add, if_true, List.getD_cons_zero, List.getD_cons_succ, List.contains_cons, List.contains_nil, Nat.reduceBEq, Bool.or_true, Bool.true_or, Bool.or_false, Bool.false_or, Bool.not_true, Bool.not_false, true_and, and_true, rowA_whole, push_n, set_n, push_obj, set_obj, set_push, set_push_ne, set_set, Nat.add_assoc, Nat.left_eq_add, Nat.add_eq_left, Nat.add_left_cancel_iff, Nat.reduceEqDiff, stO_1s, stO_ws, boxA_s, one_bool, one_int, one_str, one_ptr, one_nilptr, one_slice, one_eslice, one_nilslice, one_func, one_iface, one_niliface, List.all_cons, List.all_nil, List.length_cons, List.length_nil, Nat.reduceLT, Nat.reduceEqDiff, Nat.reduceLeDiff, Bool.and_true, Nat.one_ne_zero, Nat.succ_ne_zero, reduceIte, if_false, List.getElem?_cons_zero, List.set_cons_zero, List.set_cons_succ]
      subst hq
      refine ⟨_, ?_, k + 1, rfl, by omega, by congr 2, wr64_succ k (by omega), ?_⟩
      · omega
      · unfold IH.put
        rw [hob1, ← hh, set_set]
        unfold putO
        have := over_set (xs := (List.range n).map fun j => (markP (k0 + 6 * j)).row) (ys := rs) (k := k) (x := (markP (k0 + 6 * k)).row) (by simp [hn]) (by simp [hkn'])
        rw [← this]
        rfl
    · simp only [e0', e1, e5, go_sem, Hold.p, HoldK.k, HoldL.K, HoldL.body, Nat.reduceBEq, Nat.reduceAdd, List.getElem?_cons_zero, List.getElem?_cons_succ, Option.bind_some, List.map_cons, List.map_nil, Nat.zero_add, if_true, List.getD_cons_zero, List.getD_cons_succ, List.contains_cons, List.contains_nil, Nat.reduceBEq, Bool.or_true, Bool.true_or, Bool.or_false, Bool.false_or, Bool.not_true, Bool.not_false, true_and, and_true]
      obtain rfl : k = n := by omega
      exact ⟨rfl, by congr 2; simp [← hn, List.take_of_length_le]⟩
end Go.Proofs.Ytecljenjlncfhaa

namespace Go.Proofs.Ytecljenjlncfhaa
open Go Go.IW

set_option maxRecDepth 20000 in
theorem heldPieceS_c (h : IH) (v : IV) (n k0 : Nat) (hs : SlR h 6 v ((List.range n).map fun j => (markP (k0 + 6 * j)).row)) (hk : k0 + 6 * n < 4611686018427387904) :
    ICalls Try.prog 76 [v, .int .i64 k0] h fun r h' => r = .int .i64 ((k0 + 6 * n : Nat) : Int) ∧ h' = h := by
  refine icalls (.of ok76) (Nat.le_of_ble_eq_true rfl) ?_
  unfold c76
  have hlen := hs.lenF
  rw [List.length_map, List.length_range] at hlen
  simp only [go_sem, Hold.p, HoldK.k, HoldL.K, HoldL.body, Nat.reduceBEq, Nat.reduceAdd, List.getElem?_cons_zero, List.getElem?_cons_succ, Option.bind_some, List.map_cons, List.map_nil, Nat.zero_add, if_true, List.getD_cons_zero, List.getD_cons_succ, List.contains_cons, List.contains_nil, Nat.reduceBEq, Bool.or_true, Bool.true_or, Bool.or_false, Bool.false_or, Bool.not_true, Bool.not_false, true_and, and_true]
  refine loop_at (fun m e h' => ∃ k, m = n - k ∧ k ≤ n ∧ e 0 = v ∧ e 1 = .int .i64 ((k0 + 6 * k : Nat) : Int) ∧ e 5 = .int .i64 k ∧ h' = h) n ?_ ?_
  · refine ⟨0, by omega, by omega, ?_⟩
    simp only [go_sem, Hold.p, HoldK.k, HoldL.K, HoldL.body, Nat.reduceBEq, Nat.reduceAdd, List.getElem?_cons_zero, List.getElem?_cons_succ, Option.bind_some, List.map_cons, List.map_nil, Nat.zero_add, if_true, List.getD_cons_zero, List.getD_cons_succ, List.contains_cons, List.contains_nil, Nat.reduceBEq, Bool.or_true, Bool.true_or, Bool.or_false, Bool.false_or, Bool.not_true, Bool.not_false, true_and, and_true]
    exact ⟨by simp, rfl⟩
  · rintro m e h' ⟨k, rfl, hkn, e0', e1, e5, rfl⟩
    simp only [e0', e1, e5, hlen, go_sem, Hold.p, HoldK.k, HoldL.K, HoldL.body, Nat.reduceBEq, Nat.reduceAdd, List.getElem?_cons_zero, List.getElem?_cons_succ, Option.bind_some, List.map_cons, List.map_nil, Nat.zero_add, if_true, List.getD_cons_zero, List.getD_cons_succ, List.contains_cons, List.contains_nil, Nat.reduceBEq, Bool.or_true, Bool.true_or, Bool.or_false, Bool.false_or, Bool.not_true, Bool.not_false, true_and, and_true]
    refine test_dec (fun hb => ?_) (fun hb => ?_)
    · have hkn' : k < n := by omega
      obtain ⟨l, j, hia, hll, hrow⟩ := hs.at (m := k) (row := (markP (k0 + 6 * k)).row) (by simp [hkn']) .i64
      have hc := cellO_row hrow
      unfold Piece.row markP at hc
      generalize hq : k0 + 6 * k = q at e1 hc
      have hq' : q + 6 < 4611686018427387904 := by omega
      have w0 : wr .i64 (((q : Nat) : Int) + 1) = ((q + 1 : Nat) : Int) := by rw [wr64 _ (by omega)]; rfl
      have w1 : wr .i64 (((q + 1 : Nat) : Int) + 1) = ((q + 2 : Nat) : Int) := by rw [wr64 _ (by omega)]; rfl
      have w2 : wr .i64 (((q + 2 : Nat) : Int) + 1) = ((q + 3 : Nat) : Int) := by rw [wr64 _ (by omega)]; rfl
      have w3 : wr .i64 (((q + 3 : Nat) : Int) + 1) = ((q + 4 : Nat) : Int) := by rw [wr64 _ (by omega)]; rfl
      have w4 : wr .i64 (((q + 4 : Nat) : Int) + 1) = ((q + 5 : Nat) : Int) := by rw [wr64 _ (by omega)]; rfl
      have w5 : wr .i64 (((q + 5 : Nat) : Int) + 1) = ((q + 6 : Nat) : Int) := by rw [wr64 _ (by omega)]; rfl
      simp only [e0', e1, e5, hia, hc, decide_true, w0, w1, w2, w3, w4, w5, beq_self_eq_true, bne_self_eq_false, ib_rem _ _ _ (by decide : (3 : Int) ≠ 0), go_sem, Hold.p, HoldK.k, HoldL.K, HoldL.body, Nat.reduceBEq, Nat.reduceAdd, List.getElem?_cons_zero, List.getElem?_cons_succ, Option.bind_some, List.map_cons, List.map_nil, Nat.zero_add, if_true, List.getD_cons_zero, List.getD_cons_succ, List.contains_cons, List.contains_nil, Nat.reduceBEq, Bool.or_true, Bool.true_or, Bool.or_false, Bool.false_or, Bool.not_true, Bool.not_false, true_and, and_true]
      subst hq
      refine ⟨_, ?_, k + 1, rfl, by omega, by congr 2, wr64_succ k (by omega)⟩
      omega
    · simp only [e0', e1, e5, hlen, go_sem, Hold.p, HoldK.k, HoldL.K, HoldL.body, Nat.reduceBEq, Nat.reduceAdd, List.getElem?_cons_zero, List.getElem?_cons_succ, Option.bind_some, List.map_cons, List.map_nil, Nat.zero_add, if_true, List.getD_cons_zero, List.getD_cons_succ, List.contains_cons, List.contains_nil, Nat.reduceBEq, Bool.or_true, Bool.true_or, Bool.or_false, Bool.false_or, Bool.not_true, Bool.not_false, true_and, and_true]
      obtain rfl : k = n := by omega
      trivial
end Go.Proofs.Ytecljenjlncfhaa

namespace Go.Proofs.Ytecljenjlncfhaa
open Go Go.IW

def marksP (n k0 : Nat) : List (List IV) := (List.range n).map fun j => (markP (k0 + 6 * j)).row

set_option maxRecDepth 20000 in
theorem markPieceO_c {lo hi : Nat} (h : IH) (v : IV) (k0 : Nat) (rs : List (List IV)) (ho : Own lo hi h 113 6 v rs) (hrs : ∀ r ∈ rs, r.length = 6) (hk : k0 + 6 * rs.length < 4611686018427387904) :
    ICalls Try.prog 75 [v, .int .i64 k0] h fun r h' => r = .int .i64 ((k0 + 6 * rs.length : Nat) : Int) ∧ Own lo hi h' 113 6 v (marksP rs.length k0) ∧ Turn v h h' := by
  refine ho.mark (fun hr hlen h1 => ?_) (fun l hv h0 hl h1 h2 h3 hob => ?_)
  · subst hr
    refine icalls (.of ok75) (Nat.le_of_ble_eq_true rfl) ?_
    unfold c75
    simp only [hlen, go_sem, Hold.p, HoldK.k, HoldL.K, HoldL.body, Nat.reduceBEq, Nat.reduceAdd, List.getElem?_cons_zero, List.getElem?_cons_succ, Option.bind_some, List.map_cons, List.map_nil, Nat.zero_add, if_true, List.getD_cons_zero, List.getD_cons_succ, List.contains_cons, List.contains_nil, Nat.reduceBEq, Bool.or_true, Bool.true_or, Bool.or_false, Bool.false_or, Bool.not_true, Bool.not_false, true_and, and_true]
    refine loop_at (fun m e h' => m = 0 ∧ h' = h ∧ e 0 = v ∧ e 1 = .int .i64 k0 ∧ e 5 = .int .i64 0) 0 ?_ ?_
    · simp only [go_sem, Hold.p, HoldK.k, HoldL.K, HoldL.body, Nat.reduceBEq, Nat.reduceAdd, List.getElem?_cons_zero, List.getElem?_cons_succ, Option.bind_some, List.map_cons, List.map_nil, Nat.zero_add, if_true, List.getD_cons_zero, List.getD_cons_succ, List.contains_cons, List.contains_nil, Nat.reduceBEq, Bool.or_true, Bool.true_or, Bool.or_false, Bool.false_or, Bool.not_true, Bool.not_false, true_and, and_true]
    · rintro m e h' ⟨rfl, rfl, e0, e1, e5⟩
      simp only [e0, e1, e5, hlen, go_sem, Hold.p, HoldK.k, HoldL.K, HoldL.body, Nat.reduceBEq, Nat.reduceAdd, List.getElem?_cons_zero, List.getElem?_cons_succ, Option.bind_some, List.map_cons, List.map_nil, Nat.zero_add, if_true, List.getD_cons_zero, List.getD_cons_succ, List.contains_cons, List.contains_nil, Nat.reduceBEq, Bool.or_true, Bool.true_or, Bool.or_false, Bool.false_or, Bool.not_true, Bool.not_false, true_and, and_true]
      refine test_dec (fun hb => absurd hb (by simp)) (fun _ => ?_)
      simp only [e0, e1, e5, go_sem, Hold.p, HoldK.k, HoldL.K, HoldL.body, Nat.reduceBEq, Nat.reduceAdd, List.getElem?_cons_zero, List.getElem?_cons_succ, Option.bind_some, List.map_cons, List.map_nil, Nat.zero_add, if_true, List.getD_cons_zero, List.getD_cons_succ, List.contains_cons, List.contains_nil, Nat.reduceBEq, Bool.or_true, Bool.true_or, Bool.or_false, Bool.false_or, Bool.not_true, Bool.not_false, true_and, and_true]
      exact ⟨by simp, ho, Turn.refl _ _⟩
  · subst hv
    refine (markPieceS_c h l rs.length k0 113 rs rfl h0 hob hl hrs hk).mono ?_
    rintro r h' ⟨rfl, rfl⟩
    exact ⟨rfl, Own.over (by simp) h0 h1 h2 h3, Turn.set _⟩

set_option maxRecDepth 20000 in
theorem markBoard_c {lo hi : Nat} (h : IH) (v : IV) (una nxt : Int) (k0 : Nat) (rs : List (List IV)) (ho : Own lo hi h 113 6 v rs) (hrs : ∀ r ∈ rs, r.length = 6) (hk : k0 + 6 * rs.length < 4611686018427387904) :
    ICalls Try.prog 31 [.agg [.int .i64 una, .int .i64 nxt, v], .int .i64 k0] h fun r h' => r = .int .i64 ((k0 + 6 * rs.length : Nat) : Int) ∧ Own lo hi h' 113 6 v (marksP rs.length k0) ∧ Turn v h h' := by
  refine icalls (.of ok31) (Nat.le_of_ble_eq_true rfl) ?_
  unfold c31
  have hv1 := ho.one
  have hE : ∀ a, Ext h (h.push a) := fun a => (Ext.refl _).push _
  simp only [hv1, go_sem, Hold.p, HoldK.k, HoldL.K, HoldL.body, Nat.reduceBEq, Nat.reduceAdd, List.getElem?_cons_zero, List.getElem?_cons_succ, Option.bind_some, List.map_cons, List.map_nil, Nat.zero_add, if_true, List.getD_cons_zero, List.getD_cons_succ, List.contains_cons, List.contains_nil, Nat.reduceBEq, Bool.or_true, Bool.true_or, Bool.or_false, Bool.false_or, Bool.not_true, Bool.not_false, true_and, and_true, rowA_whole, push_n, set_n, push_obj, set_obj, set_push, set_push_ne, set_set, Nat.add_assoc, Nat.left_eq_add, Nat.add_eq_left, Nat.add_left_cancel_iff, Nat.reduceEqDiff, stO_1s, stO_ws, boxA_s, one_bool, one_int, one_str, one_ptr, one_nilptr, one_slice, one_eslice, one_nilslice, one_func, one_iface, one_niliface, List.all_cons, List.all_nil, List.length_cons, List.length_nil, Nat.reduceLT, Nat.reduceEqDiff, Nat.reduceLeDiff, Bool.and_true, Nat.one_ne_zero, Nat.succ_ne_zero, reduceIte, if_false, List.getElem?_cons_zero, List.set_cons_zero, List.set_cons_succ]
  refine callA_of (markPieceO_c _ v k0 rs (ho.ext (hE _)) hrs hk) ?_
  rintro r h1 ⟨rfl, ho1, ht⟩
  simp only [go_sem, Hold.p, HoldK.k, HoldL.K, HoldL.body, Nat.reduceBEq, Nat.reduceAdd, List.getElem?_cons_zero, List.getElem?_cons_succ, Option.bind_some, List.map_cons, List.map_nil, Nat.zero_add, if_true, List.getD_cons_zero, List.getD_cons_succ, List.contains_cons, List.contains_nil, Nat.reduceBEq, Bool.or_true, Bool.true_or, Bool.or_false, Bool.false_or, Bool.not_true, Bool.not_false, true_and, and_true, rowA_whole, push_n, set_n, push_obj, set_obj, set_push, set_push_ne, set_set, Nat.add_assoc, Nat.left_eq_add, Nat.add_eq_left, Nat.add_left_cancel_iff, Nat.reduceEqDiff, stO_1s, stO_ws, boxA_s, one_bool, one_int, one_str, one_ptr, one_nilptr, one_slice, one_eslice, one_nilslice, one_func, one_iface, one_niliface, List.all_cons, List.all_nil, List.length_cons, List.length_nil, Nat.reduceLT, Nat.reduceEqDiff, Nat.reduceLeDiff, Bool.and_true, Nat.one_ne_zero, Nat.succ_ne_zero, reduceIte, if_false, List.getElem?_cons_zero, List.set_cons_zero, List.set_cons_succ]
  exact ⟨ho1, (Turn.of_ext (hE _)).trans ht⟩

set_option maxRecDepth 20000 in
theorem heldBoard_c (h : IH) (v : IV) (una nxt : Int) (n k0 : Nat) (hs : SlR h 6 v (marksP n k0)) (hk : k0 + 6 * n < 4611686018427387904) :
    ICalls Try.prog 32 [.agg [.int .i64 una, .int .i64 nxt, v], .int .i64 k0] h fun r h' => r = .int .i64 ((k0 + 6 * n : Nat) : Int) ∧ Ext h h' := by
  refine icalls (.of ok32) (Nat.le_of_ble_eq_true rfl) ?_
  unfold c32
  have hv1 := hs.one
  have hE : ∀ a, Ext h (h.push a) := fun a => (Ext.refl _).push _
  simp only [hv1, go_sem, Hold.p, HoldK.k, HoldL.K, HoldL.body, Nat.reduceBEq, Nat.reduceAdd, List.getElem?_cons_zero, List.getElem?_cons_succ, Option.bind_some, List.map_cons, List.map_nil, Nat.zero_add, if_true, List.getD_cons_zero, List.getD_cons_succ, List.contains_cons, List.contains_nil, Nat.reduceBEq, Bool.or_true, Bool.true_or, Bool.or_false, Bool.false_or, Bool.not_true, Bool.not_false, true_and, and_true, rowA_whole, push_n, set_n, push_obj, set_obj, set_push, set_push_ne, set_set, Nat.add_assoc, Nat.left_eq_add, Nat.add_eq_left, Nat.add_left_cancel_iff, Nat.reduceEqDiff, stO_1s, stO_ws, boxA_s, one_bool, one_int, one_str, one_ptr, one_nilptr, one_slice, one_eslice, one_nilslice, one_func, one_iface, one_niliface, List.all_cons, List.all_nil, List.length_cons, List.length_nil, Nat.reduceLT, Nat.reduceEqDiff, Nat.reduceLeDiff, Bool.and_true, Nat.one_ne_zero, Nat.succ_ne_zero, reduceIte, if_false, List.getElem?_cons_zero, List.set_cons_zero, List.set_cons_succ]
  refine callA_of (heldPieceS_c _ v n k0 (hs.ext (hE _)) hk) ?_
  rintro r h1 ⟨rfl, rfl⟩
  have hn : decide (((k0 + 6 * n : Nat) : Int) < 0) = false := by simp; omega
  simp only [hn, go_sem, Hold.p, HoldK.k, HoldL.K, HoldL.body, Nat.reduceBEq, Nat.reduceAdd, List.getElem?_cons_zero, List.getElem?_cons_succ, Option.bind_some, List.map_cons, List.map_nil, Nat.zero_add, if_true, List.getD_cons_zero, List.getD_cons_succ, List.contains_cons, List.contains_nil, Nat.reduceBEq, Bool.or_true, Bool.true_or, Bool.or_false, Bool.false_or, Bool.not_true, Bool.not_false, true_and, and_true, rowA_whole, push_n, set_n, push_obj, set_obj, set_push, set_push_ne, set_set, Nat.add_assoc, Nat.left_eq_add, Nat.add_eq_left, Nat.add_left_cancel_iff, Nat.reduceEqDiff, stO_1s, stO_ws, boxA_s, one_bool, one_int, one_str, one_ptr, one_nilptr, one_slice, one_eslice, one_nilslice, one_func, one_iface, one_niliface, List.all_cons, List.all_nil, List.length_cons, List.length_nil, Nat.reduceLT, Nat.reduceEqDiff, Nat.reduceLeDiff, Bool.and_true, Nat.one_ne_zero, Nat.succ_ne_zero, reduceIte, if_false, List.getElem?_cons_zero, List.set_cons_zero, List.set_cons_succ]
  exact hE _

set_option maxRecDepth 20000 in
theorem clonePiece_c (h : IH) (v : IV) (rs : List (List IV)) (hs : SlR h 6 v rs) (hm : rs.length ≤ 1048576) :
    ICalls Try.prog 98 [v] h fun r h' => Own h.n h'.n h' 113 6 r rs ∧ Ext h h' := by
  refine icalls (.of ok98) (Nat.le_of_ble_eq_true rfl) ?_
  unfold c98
  obtain ⟨b, hb, hb2⟩ := hs.nilq
  have hsrc := hs.src
  cases b with
  | true =>
    obtain rfl := hb2 rfl
    simp only [hb, Bool.bne_false, go_sem, Hold.p, HoldK.k, HoldL.K, HoldL.body, Nat.reduceBEq, Nat.reduceAdd, List.getElem?_cons_zero, List.getElem?_cons_succ, Option.bind_some, List.map_cons, List.map_nil, Nat.zero_add, if_true, List.getD_cons_zero, List.getD_cons_succ, List.contains_cons, List.contains_nil, Nat.reduceBEq, Bool.or_true, Bool.true_or, Bool.or_false, Bool.false_or, Bool.not_true, Bool.not_false, true_and, and_true, rowA_whole, push_n, set_n, push_obj, set_obj, set_push, set_push_ne, set_set, Nat.add_assoc, Nat.left_eq_add, Nat.add_eq_left, Nat.add_left_cancel_iff, Nat.reduceEqDiff, stO_1s, stO_ws, boxA_s, one_bool, one_int, one_str, one_ptr, one_nilptr, one_slice, one_eslice, one_nilslice, one_func, one_iface, one_niliface, List.all_cons, List.all_nil, List.length_cons, List.length_nil, Nat.reduceLT, Nat.reduceEqDiff, Nat.reduceLeDiff, Bool.and_true, Nat.one_ne_zero, Nat.succ_ne_zero, reduceIte, if_false, List.getElem?_cons_zero, List.set_cons_zero, List.set_cons_succ]
    exact ⟨.nil, Ext.refl _⟩
  | false =>
    simp only [hsrc, hb, Bool.bne_false, go_sem, Hold.p, HoldK.k, HoldL.K, HoldL.body, Nat.reduceBEq, Nat.reduceAdd, List.getElem?_cons_zero, List.getElem?_cons_succ, Option.bind_some, List.map_cons, List.map_nil, Nat.zero_add, if_true, List.getD_cons_zero, List.getD_cons_succ, List.contains_cons, List.contains_nil, Nat.reduceBEq, Bool.or_true, Bool.true_or, Bool.or_false, Bool.false_or, Bool.not_true, Bool.not_false, true_and, and_true, rowA_whole, push_n, set_n, push_obj, set_obj, set_push, set_push_ne, set_set, Nat.add_assoc, Nat.left_eq_add, Nat.add_eq_left, Nat.add_left_cancel_iff, Nat.reduceEqDiff, stO_1s, stO_ws, boxA_s, one_bool, one_int, one_str, one_ptr, one_nilptr, one_slice, one_eslice, one_nilslice, one_func, one_iface, one_niliface, List.all_cons, List.all_nil, List.length_cons, List.length_nil, Nat.reduceLT, Nat.reduceEqDiff, Nat.reduceLeDiff, Bool.and_true, Nat.one_ne_zero, Nat.succ_ne_zero, reduceIte, if_false, List.getElem?_cons_zero, List.set_cons_zero, List.set_cons_succ]
    by_cases h0 : rs = []
    · subst h0
      refine appA_none (n := 0) rfl ?_
      simp only [go_sem, Hold.p, HoldK.k, HoldL.K, HoldL.body, Nat.reduceBEq, Nat.reduceAdd, List.getElem?_cons_zero, List.getElem?_cons_succ, Option.bind_some, List.map_cons, List.map_nil, Nat.zero_add, if_true, List.getD_cons_zero, List.getD_cons_succ, List.contains_cons, List.contains_nil, Nat.reduceBEq, Bool.or_true, Bool.true_or, Bool.or_false, Bool.false_or, Bool.not_true, Bool.not_false, true_and, and_true, rowA_whole, push_n, set_n, push_obj, set_obj, set_push, set_push_ne, set_set, Nat.add_assoc, Nat.left_eq_add, Nat.add_eq_left, Nat.add_left_cancel_iff, Nat.reduceEqDiff, stO_1s, stO_ws, boxA_s, one_bool, one_int, one_str, one_ptr, one_nilptr, one_slice, one_eslice, one_nilslice, one_func, one_iface, one_niliface, List.all_cons, List.all_nil, List.length_cons, List.length_nil, Nat.reduceLT, Nat.reduceEqDiff, Nat.reduceLeDiff, Bool.and_true, Nat.one_ne_zero, Nat.succ_ne_zero, reduceIte, if_false, List.getElem?_cons_zero, List.set_cons_zero, List.set_cons_succ]
      exact ⟨.empty, Ext.refl _⟩
    · refine appA_newe h0 (by omega) ?_
      simp only [go_sem, Hold.p, HoldK.k, HoldL.K, HoldL.body, Nat.reduceBEq, Nat.reduceAdd, List.getElem?_cons_zero, List.getElem?_cons_succ, Option.bind_some, List.map_cons, List.map_nil, Nat.zero_add, if_true, List.getD_cons_zero, List.getD_cons_succ, List.contains_cons, List.contains_nil, Nat.reduceBEq, Bool.or_true, Bool.true_or, Bool.or_false, Bool.false_or, Bool.not_true, Bool.not_false, true_and, and_true, rowA_whole, push_n, set_n, push_obj, set_obj, set_push, set_push_ne, set_set, Nat.add_assoc, Nat.left_eq_add, Nat.add_eq_left, Nat.add_left_cancel_iff, Nat.reduceEqDiff, stO_1s, stO_ws, boxA_s, one_bool, one_int, one_str, one_ptr, one_nilptr, one_slice, one_eslice, one_nilslice, one_func, one_iface, one_niliface, List.all_cons, List.all_nil, List.length_cons, List.length_nil, Nat.reduceLT, Nat.reduceEqDiff, Nat.reduceLeDiff, Bool.and_true, Nat.one_ne_zero, Nat.succ_ne_zero, reduceIte, if_false, List.getElem?_cons_zero, List.set_cons_zero, List.set_cons_succ]
      exact ⟨Own.mk h0 (Nat.le_refl _) (Nat.lt_succ_self _) (Nat.le_refl _) (push_new _ _), (Ext.refl _).push _⟩

set_option maxRecDepth 20000 in
theorem ownBoard_c (h : IH) (v : IV) (una nxt : Int) (rs : List (List IV)) (hs : SlR h 6 v rs) (hm : rs.length ≤ 1048576) :
    ICalls Try.prog 73 [.agg [.int .i64 una, .int .i64 nxt, v]] h fun r h' => ∃ v', r = .agg [.int .i64 una, .int .i64 nxt, v'] ∧ Own h.n h'.n h' 113 6 v' rs ∧ Ext h h' := by
  refine icalls (.of ok73) (Nat.le_of_ble_eq_true rfl) ?_
  unfold c73
  have hv1 := hs.one
  have hE : ∀ a b, Ext h ((h.push a).push b) := fun a b => (Ext.refl _).push _ |>.push _
  simp only [hv1, go_sem, Hold.p, HoldK.k, HoldL.K, HoldL.body, Nat.reduceBEq, Nat.reduceAdd, List.getElem?_cons_zero, List.getElem?_cons_succ, Option.bind_some, List.map_cons, List.map_nil, Nat.zero_add, if_true, List.getD_cons_zero, List.getD_cons_succ, List.contains_cons, List.contains_nil, Nat.reduceBEq, Bool.or_true, Bool.true_or, Bool.or_false, Bool.false_or, Bool.not_true, Bool.not_false, true_and, and_true, rowA_whole, push_n, set_n, push_obj, set_obj, set_push, set_push_ne, set_set, Nat.add_assoc, Nat.left_eq_add, Nat.add_eq_left, Nat.add_left_cancel_iff, Nat.reduceEqDiff, stO_1s, stO_ws, boxA_s, one_bool, one_int, one_str, one_ptr, one_nilptr, one_slice, one_eslice, one_nilslice, one_func, one_iface, one_niliface, List.all_cons, List.all_nil, List.length_cons, List.length_nil, Nat.reduceLT, Nat.reduceEqDiff, Nat.reduceLeDiff, Bool.and_true, Nat.one_ne_zero, Nat.succ_ne_zero, reduceIte, if_false, List.getElem?_cons_zero, List.set_cons_zero, List.set_cons_succ]
  refine callA_of (clonePiece_c _ v rs (hs.ext (hE _ _)) hm) ?_
  rintro v1 h1 ⟨ho, hE1⟩
  have b0 := hE1.obj h.n (by simp only [push_n]; omega)
  have b1 := hE1.obj (h.n + 1) (by simp only [push_n]; omega)
  simp [push_obj, push_n] at b0 b1
  have ho1 := ho.one
  have hoc := ho.cells
  have hl := hE1.le
  simp only [push_n] at hl
  simp only [ho1, hoc, b0, b1, go_sem, Hold.p, HoldK.k, HoldL.K, HoldL.body, Nat.reduceBEq, Nat.reduceAdd, List.getElem?_cons_zero, List.getElem?_cons_succ, Option.bind_some, List.map_cons, List.map_nil, Nat.zero_add, if_true, List.getD_cons_zero, List.getD_cons_succ, List.contains_cons, List.contains_nil, Nat.reduceBEq, Bool.or_true, Bool.true_or, Bool.or_false, Bool.false_or, Bool.not_true, Bool.not_false, true_and, and_true, rowA_whole, push_n, set_n, push_obj, set_obj, set_push, set_push_ne, set_set, Nat.add_assoc, Nat.left_eq_add, Nat.add_eq_left, Nat.add_left_cancel_iff, Nat.reduceEqDiff, stO_1s, stO_ws, boxA_s, one_bool, one_int, one_str, one_ptr, one_nilptr, one_slice, one_eslice, one_nilslice, one_func, one_iface, one_niliface, List.all_cons, List.all_nil, List.length_cons, List.length_nil, Nat.reduceLT, Nat.reduceEqDiff, Nat.reduceLeDiff, Bool.and_true, Nat.one_ne_zero, Nat.succ_ne_zero, reduceIte, if_false, List.getElem?_cons_zero, List.set_cons_zero, List.set_cons_succ]
  exact ⟨_, rfl, ((ho.set (m := h.n) (.inl (by simp only [push_n]; omega)) _).set (m := h.n + 1) (.inl (by simp only [push_n]; omega)) _).wide (by simp only [push_n]; omega) (Nat.le_refl _) (Nat.le_refl _),
    (((hE _ _).trans hE1).set _ (by omega) _).set _ (by omega) _⟩

set_option maxRecDepth 20000 in
theorem l15Copy_c (h : IH) (v : IV) (una nxt : Int) (rs : List (List IV)) (hs : SlR h 6 v rs) (hm : rs.length ≤ 1048576) :
    ICalls Try.prog 72 [.agg [.int .i64 una, .int .i64 nxt, v]] h fun r h' => ∃ v', r = .agg [.int .i64 una, .int .i64 nxt, v'] ∧ Own h.n h'.n h' 113 6 v' rs ∧ Ext h h' := by
  refine icalls (.of ok72) (Nat.le_of_ble_eq_true rfl) ?_
  unfold c72
  have hv1 := hs.one
  have hE : ∀ a b, Ext h ((h.push a).push b) := fun a b => (Ext.refl _).push _ |>.push _
  have hsrc := (hs.ext (hE (IObj.rows [[IV.int .i64 una, IV.int .i64 nxt, v]] 40 3 false) (IObj.rows [[IV.int .i64 0, IV.int .i64 0, IV.nilslice]] 40 3 false))).src
  simp only [hv1, hsrc, go_sem, Hold.p, HoldK.k, HoldL.K, HoldL.body, Nat.reduceBEq, Nat.reduceAdd, List.getElem?_cons_zero, List.getElem?_cons_succ, Option.bind_some, List.map_cons, List.map_nil, Nat.zero_add, if_true, List.getD_cons_zero, List.getD_cons_succ, List.contains_cons, List.contains_nil, Nat.reduceBEq, Bool.or_true, Bool.true_or, Bool.or_false, Bool.false_or, Bool.not_true, Bool.not_false, true_and, and_true, rowA_whole, push_n, set_n, push_obj, set_obj, set_push, set_push_ne, set_set, Nat.add_assoc, Nat.left_eq_add, Nat.add_eq_left, Nat.add_left_cancel_iff, Nat.reduceEqDiff, stO_1s, stO_ws, boxA_s, one_bool, one_int, one_str, one_ptr, one_nilptr, one_slice, one_eslice, one_nilslice, one_func, one_iface, one_niliface, List.all_cons, List.all_nil, List.length_cons, List.length_nil, Nat.reduceLT, Nat.reduceEqDiff, Nat.reduceLeDiff, Bool.and_true, Nat.one_ne_zero, Nat.succ_ne_zero, reduceIte, if_false, List.getElem?_cons_zero, List.set_cons_zero, List.set_cons_succ]
  by_cases h0 : rs = []
  · subst h0
    refine appA_none (n := 0) rfl ?_
    simp only [go_sem, Hold.p, HoldK.k, HoldL.K, HoldL.body, Nat.reduceBEq, Nat.reduceAdd, List.getElem?_cons_zero, List.getElem?_cons_succ, Option.bind_some, List.map_cons, List.map_nil, Nat.zero_add, if_true, List.getD_cons_zero, List.getD_cons_succ, List.contains_cons, List.contains_nil, Nat.reduceBEq, Bool.or_true, Bool.true_or, Bool.or_false, Bool.false_or, Bool.not_true, Bool.not_false, true_and, and_true, rowA_whole, push_n, set_n, push_obj, set_obj, set_push, set_push_ne, set_set, Nat.add_assoc, Nat.left_eq_add, Nat.add_eq_left, Nat.add_left_cancel_iff, Nat.reduceEqDiff, stO_1s, stO_ws, boxA_s, one_bool, one_int, one_str, one_ptr, one_nilptr, one_slice, one_eslice, one_nilslice, one_func, one_iface, one_niliface, List.all_cons, List.all_nil, List.length_cons, List.length_nil, Nat.reduceLT, Nat.reduceEqDiff, Nat.reduceLeDiff, Bool.and_true, Nat.one_ne_zero, Nat.succ_ne_zero, reduceIte, if_false, List.getElem?_cons_zero, List.set_cons_zero, List.set_cons_succ]
    refine got_of (v := .agg [.int .i64 una, .int .i64 nxt, .eslice true]) rfl ?_
    simp only [go_sem, Hold.p, HoldK.k, HoldL.K, HoldL.body, Nat.reduceBEq, Nat.reduceAdd, List.getElem?_cons_zero, List.getElem?_cons_succ, Option.bind_some, List.map_cons, List.map_nil, Nat.zero_add, if_true, List.getD_cons_zero, List.getD_cons_succ, List.contains_cons, List.contains_nil, Nat.reduceBEq, Bool.or_true, Bool.true_or, Bool.or_false, Bool.false_or, Bool.not_true, Bool.not_false, true_and, and_true, rowA_whole, push_n, set_n, push_obj, set_obj, set_push, set_push_ne, set_set, Nat.add_assoc, Nat.left_eq_add, Nat.add_eq_left, Nat.add_left_cancel_iff, Nat.reduceEqDiff, stO_1s, stO_ws, boxA_s, one_bool, one_int, one_str, one_ptr, one_nilptr, one_slice, one_eslice, one_nilslice, one_func, one_iface, one_niliface, List.all_cons, List.all_nil, List.length_cons, List.length_nil, Nat.reduceLT, Nat.reduceEqDiff, Nat.reduceLeDiff, Bool.and_true, Nat.one_ne_zero, Nat.succ_ne_zero, reduceIte, if_false, List.getElem?_cons_zero, List.set_cons_zero, List.set_cons_succ]
    exact ⟨_, rfl, .empty, hE _ _⟩
  · refine appA_newe h0 (by omega) ?_
    simp only [go_sem, Hold.p, HoldK.k, HoldL.K, HoldL.body, Nat.reduceBEq, Nat.reduceAdd, List.getElem?_cons_zero, List.getElem?_cons_succ, Option.bind_some, List.map_cons, List.map_nil, Nat.zero_add, if_true, List.getD_cons_zero, List.getD_cons_succ, List.contains_cons, List.contains_nil, Nat.reduceBEq, Bool.or_true, Bool.true_or, Bool.or_false, Bool.false_or, Bool.not_true, Bool.not_false, true_and, and_true, rowA_whole, push_n, set_n, push_obj, set_obj, set_push, set_push_ne, set_set, Nat.add_assoc, Nat.left_eq_add, Nat.add_eq_left, Nat.add_left_cancel_iff, Nat.reduceEqDiff, stO_1s, stO_ws, boxA_s, one_bool, one_int, one_str, one_ptr, one_nilptr, one_slice, one_eslice, one_nilslice, one_func, one_iface, one_niliface, List.all_cons, List.all_nil, List.length_cons, List.length_nil, Nat.reduceLT, Nat.reduceEqDiff, Nat.reduceLeDiff, Bool.and_true, Nat.one_ne_zero, Nat.succ_ne_zero, reduceIte, if_false, List.getElem?_cons_zero, List.set_cons_zero, List.set_cons_succ]
    refine got_of (v := .agg [.int .i64 una, .int .i64 nxt, .slice (h.n + 2) 0 rs.length]) rfl ?_
    simp only [go_sem, Hold.p, HoldK.k, HoldL.K, HoldL.body, Nat.reduceBEq, Nat.reduceAdd, List.getElem?_cons_zero, List.getElem?_cons_succ, Option.bind_some, List.map_cons, List.map_nil, Nat.zero_add, if_true, List.getD_cons_zero, List.getD_cons_succ, List.contains_cons, List.contains_nil, Nat.reduceBEq, Bool.or_true, Bool.true_or, Bool.or_false, Bool.false_or, Bool.not_true, Bool.not_false, true_and, and_true, rowA_whole, push_n, set_n, push_obj, set_obj, set_push, set_push_ne, set_set, Nat.add_assoc, Nat.left_eq_add, Nat.add_eq_left, Nat.add_left_cancel_iff, Nat.reduceEqDiff, stO_1s, stO_ws, boxA_s, one_bool, one_int, one_str, one_ptr, one_nilptr, one_slice, one_eslice, one_nilslice, one_func, one_iface, one_niliface, List.all_cons, List.all_nil, List.length_cons, List.length_nil, Nat.reduceLT, Nat.reduceEqDiff, Nat.reduceLeDiff, Bool.and_true, Nat.one_ne_zero, Nat.succ_ne_zero, reduceIte, if_false, List.getElem?_cons_zero, List.set_cons_zero, List.set_cons_succ]
    exact ⟨_, rfl, Own.mk h0 (by omega) (by omega) (by simp only [push_n]; omega) (by simp [push_obj, push_n]), (hE _ _).push _⟩
end Go.Proofs.Ytecljenjlncfhaa
