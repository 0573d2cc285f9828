import Derived.Test.YtecljenjlncfhaaIwP
import Derived.Test.YtecljenjlncfhaaProg
import Derived.KernelRfl
set_option linter.unusedVariables false
set_option linter.unusedSimpArgs false
namespace Go.Proofs.Ytecljenjlncfhaa
open Go Go.IW
/-- loop.example/g00003/laws.FnExactBoardFirst -/
def c7 : CC :=
 (.seq (.reg [
   ⟨(some 1), none, .x (.box 35 3 (.t 0))⟩,
   ⟨(some 2), none, .f (.mv (.c (.bool false)))⟩])
 (.seq (.reg [
   ⟨(some 3), none, .f (.mv (.c (.int .i64 1048576)))⟩])
 (.seq (.reg [
   ⟨(some 17), none, .f (.ldA 3 (.t 1))⟩,
   ⟨(some 18), none, .f (.mv (.t 3))⟩,
   ⟨(some 19), none, .x (.call 24 [(.t 17), (.t 18)])⟩,
   ⟨(some 3), none, .f (.mv (.t 19))⟩])
 (.seq (.seq (.reg [
   ⟨(some 20), none, .f (.mv (.t 3))⟩,
   ⟨(some 21), none, .f (.bin .lss (.t 20) (.c (.int .i64 0)))⟩])
 (.cond (.t 21)
  (.seq (.reg [
    ⟨(some 2), none, .f (.mv (.c (.bool true)))⟩])
  .ret)
  .skip))
 (.seq (.reg [
   ⟨(some 23), none, .f (.ldA 3 (.t 1))⟩,
   ⟨(some 24), none, .x (.call 26 [(.t 23)])⟩,
   ⟨(some 25), none, .x (.call 29 [(.t 24)])⟩,
   ⟨(some 22), none, .f (.mv (.t 25))⟩,
   ⟨(some 26), none, .f (.ext 0 (.t 22))⟩,
   ⟨(some 27), none, .f (.ext 1 (.t 22))⟩,
   ⟨(some 28), none, .f (.ext 2 (.t 22))⟩,
   ⟨(some 4), none, .x (.zero 40 3 [(.int .i64 0), (.int .i64 0), .nilslice])⟩,
   ⟨none, none, .x (.st 3 (.t 4) (.t 26))⟩,
   ⟨(some 5), none, .f (.mv (.t 27))⟩,
   ⟨(some 6), none, .f (.mv (.t 28))⟩])
 (.seq (.reg [
   ⟨(some 29), none, .f (.ldA 3 (.t 1))⟩,
   ⟨(some 30), none, .x (.call 26 [(.t 29)])⟩,
   ⟨(some 7), none, .x (.zero 40 3 [(.int .i64 0), (.int .i64 0), .nilslice])⟩,
   ⟨none, none, .x (.st 3 (.t 7) (.t 30))⟩])
 (.seq (.reg [
   ⟨(some 32), none, .f (.ldA 3 (.t 7))⟩,
   ⟨(some 33), none, .x (.call 30 [(.t 32)])⟩,
   ⟨(some 31), none, .f (.mv (.t 33))⟩,
   ⟨(some 34), none, .f (.ext 0 (.t 31))⟩,
   ⟨(some 35), none, .f (.ext 1 (.t 31))⟩,
   ⟨(some 36), none, .f (.ext 2 (.t 31))⟩,
   ⟨(some 8), none, .x (.zero 40 3 [(.int .i64 0), (.int .i64 0), .nilslice])⟩,
   ⟨none, none, .x (.st 3 (.t 8) (.t 34))⟩,
   ⟨(some 9), none, .f (.mv (.t 35))⟩,
   ⟨(some 10), none, .f (.mv (.t 36))⟩])
 (.seq (.seq (.reg [
   ⟨(some 37), none, .f (.ldA 3 (.t 8))⟩,
   ⟨(some 38), none, .f (.ldA 3 (.t 4))⟩,
   ⟨(some 39), none, .x (.call 28 [(.t 37), (.t 38)])⟩,
   ⟨(some 40), none, .f (.un .not (.t 39))⟩,
   ⟨(some 41), none, .f (.mv (.t 40))⟩,
   ⟨(some 42), (some (41, false)), .f (.mv (.t 9))⟩,
   ⟨(some 43), (some (41, false)), .f (.mv (.t 5))⟩,
   ⟨(some 44), (some (41, false)), .f (.bin .neq (.t 42) (.t 43))⟩,
   ⟨(some 45), none, .f (.pick (.t 41) (.c (.bool true)) (.t 44))⟩,
   ⟨(some 46), none, .f (.mv (.t 45))⟩,
   ⟨(some 47), (some (46, false)), .f (.mv (.t 10))⟩,
   ⟨(some 48), (some (46, false)), .f (.mv (.t 6))⟩,
   ⟨(some 49), (some (46, false)), .f (.bin .neq (.t 47) (.t 48))⟩,
   ⟨(some 50), none, .f (.pick (.t 46) (.c (.bool true)) (.t 49))⟩])
 (.cond (.t 50)
  (.seq (.reg [
    ⟨(some 2), none, .f (.mv (.c (.bool false)))⟩])
  .ret)
  .skip))
 (.seq (.seq (.dreg [
   ⟨(some 51), none, .f (.ldA 3 (.t 7))⟩,
   ⟨(some 52), none, .f (.ldA 3 (.t 1))⟩,
   ⟨(some 53), none, .x (.call 26 [(.t 52)])⟩,
   ⟨(some 54), none, .x (.call 28 [(.t 51), (.t 53)])⟩,
   ⟨(some 55), none, .f (.un .not (.t 54))⟩]
   [false, false, true, true, false] [[], [], [1], [0, 2, 1], [3, 0, 2, 1]] [0, 1, 2, 3, 4])
 (.cond (.t 55)
  (.seq (.reg [
    ⟨(some 2), none, .f (.mv (.c (.bool false)))⟩])
  .ret)
  .skip))
 (.seq (.reg [
   ⟨(some 11), none, .f (.mv (.c (.int .i64 1)))⟩])
 (.seq (.reg [
   ⟨(some 56), none, .f (.ldA 3 (.t 7))⟩,
   ⟨(some 57), none, .f (.mv (.t 11))⟩,
   ⟨(some 58), none, .x (.call 31 [(.t 56), (.t 57)])⟩,
   ⟨(some 11), none, .f (.mv (.t 58))⟩])
 (.seq (.seq (.reg [
   ⟨(some 59), none, .f (.mv (.t 11))⟩,
   ⟨(some 60), none, .f (.bin .lss (.t 59) (.c (.int .i64 0)))⟩,
   ⟨(some 61), none, .f (.mv (.t 60))⟩,
   ⟨(some 62), (some (61, false)), .f (.ldA 3 (.t 8))⟩,
   ⟨(some 63), (some (61, false)), .f (.ldA 3 (.t 4))⟩,
   ⟨(some 64), (some (61, false)), .x (.call 28 [(.t 62), (.t 63)])⟩,
   ⟨(some 65), (some (61, false)), .f (.un .not (.t 64))⟩,
   ⟨(some 66), none, .f (.pick (.t 61) (.c (.bool true)) (.t 65))⟩,
   ⟨(some 67), none, .f (.mv (.t 66))⟩,
   ⟨(some 68), (some (67, false)), .f (.mv (.t 9))⟩,
   ⟨(some 69), (some (67, false)), .f (.mv (.t 5))⟩,
   ⟨(some 70), (some (67, false)), .f (.bin .neq (.t 68) (.t 69))⟩,
   ⟨(some 71), none, .f (.pick (.t 67) (.c (.bool true)) (.t 70))⟩,
   ⟨(some 72), none, .f (.mv (.t 71))⟩,
   ⟨(some 73), (some (72, false)), .f (.mv (.t 10))⟩,
   ⟨(some 74), (some (72, false)), .f (.mv (.t 6))⟩,
   ⟨(some 75), (some (72, false)), .f (.bin .neq (.t 73) (.t 74))⟩,
   ⟨(some 76), none, .f (.pick (.t 72) (.c (.bool true)) (.t 75))⟩])
 (.cond (.t 76)
  (.seq (.reg [
    ⟨(some 2), none, .f (.mv (.c (.bool false)))⟩])
  .ret)
  .skip))
 (.seq (.reg [
   ⟨(some 12), none, .f (.mv (.c (.int .i64 1)))⟩])
 (.seq (.reg [
   ⟨(some 77), none, .f (.ldA 3 (.t 8))⟩,
   ⟨(some 78), none, .f (.mv (.t 12))⟩,
   ⟨(some 79), none, .x (.call 31 [(.t 77), (.t 78)])⟩,
   ⟨(some 12), none, .f (.mv (.t 79))⟩])
 (.seq (.reg [
   ⟨(some 13), none, .f (.mv (.c (.int .i64 1)))⟩])
 (.seq (.reg [
   ⟨(some 80), none, .f (.ldA 3 (.t 8))⟩,
   ⟨(some 81), none, .f (.mv (.t 13))⟩,
   ⟨(some 82), none, .x (.call 32 [(.t 80), (.t 81)])⟩,
   ⟨(some 13), none, .f (.mv (.t 82))⟩])
 (.seq (.seq (.reg [
   ⟨(some 83), none, .f (.mv (.t 13))⟩,
   ⟨(some 84), none, .f (.bin .lss (.t 83) (.c (.int .i64 0)))⟩])
 (.cond (.t 84)
  (.seq (.reg [
    ⟨(some 2), none, .f (.mv (.c (.bool false)))⟩])
  .ret)
  .skip))
 (.seq (.seq (.reg [
   ⟨(some 85), none, .f (.mv (.t 13))⟩,
   ⟨(some 86), none, .f (.mv (.t 12))⟩,
   ⟨(some 87), none, .f (.bin .neq (.t 85) (.t 86))⟩])
 (.cond (.t 87)
  (.seq (.reg [
    ⟨(some 2), none, .f (.mv (.c (.bool false)))⟩])
  .ret)
  .skip))
 (.seq (.reg [
   ⟨(some 89), none, .f (.ldA 3 (.t 1))⟩,
   ⟨(some 90), none, .x (.call 26 [(.t 89)])⟩,
   ⟨(some 91), none, .x (.call 30 [(.t 90)])⟩,
   ⟨(some 88), none, .f (.mv (.t 91))⟩,
   ⟨(some 92), none, .f (.ext 0 (.t 88))⟩,
   ⟨(some 93), none, .f (.ext 1 (.t 88))⟩,
   ⟨(some 94), none, .f (.ext 2 (.t 88))⟩,
   ⟨(some 14), none, .x (.zero 40 3 [(.int .i64 0), (.int .i64 0), .nilslice])⟩,
   ⟨none, none, .x (.st 3 (.t 14) (.t 92))⟩,
   ⟨(some 15), none, .f (.mv (.t 93))⟩,
   ⟨(some 16), none, .f (.mv (.t 94))⟩])
 (.seq (.seq (.reg [
   ⟨(some 95), none, .f (.ldA 3 (.t 14))⟩,
   ⟨(some 96), none, .f (.ldA 3 (.t 4))⟩,
   ⟨(some 97), none, .x (.call 28 [(.t 95), (.t 96)])⟩,
   ⟨(some 98), none, .f (.un .not (.t 97))⟩,
   ⟨(some 99), none, .f (.mv (.t 98))⟩,
   ⟨(some 100), (some (99, false)), .f (.mv (.t 15))⟩,
   ⟨(some 101), (some (99, false)), .f (.mv (.t 5))⟩,
   ⟨(some 102), (some (99, false)), .f (.bin .neq (.t 100) (.t 101))⟩,
   ⟨(some 103), none, .f (.pick (.t 99) (.c (.bool true)) (.t 102))⟩,
   ⟨(some 104), none, .f (.mv (.t 103))⟩,
   ⟨(some 105), (some (104, false)), .f (.mv (.t 16))⟩,
   ⟨(some 106), (some (104, false)), .f (.mv (.t 6))⟩,
   ⟨(some 107), (some (104, false)), .f (.bin .neq (.t 105) (.t 106))⟩,
   ⟨(some 108), none, .f (.pick (.t 104) (.c (.bool true)) (.t 107))⟩])
 (.cond (.t 108)
  (.seq (.reg [
    ⟨(some 2), none, .f (.mv (.c (.bool false)))⟩])
  .ret)
  .skip))
 (.seq (.reg [
   ⟨(some 13), none, .f (.mv (.c (.int .i64 1)))⟩])
 (.seq (.reg [
   ⟨(some 109), none, .f (.ldA 3 (.t 8))⟩,
   ⟨(some 110), none, .f (.mv (.t 13))⟩,
   ⟨(some 111), none, .x (.call 32 [(.t 109), (.t 110)])⟩,
   ⟨(some 13), none, .f (.mv (.t 111))⟩])
 (.seq (.seq (.reg [
   ⟨(some 112), none, .f (.mv (.t 13))⟩,
   ⟨(some 113), none, .f (.bin .lss (.t 112) (.c (.int .i64 0)))⟩])
 (.cond (.t 113)
  (.seq (.reg [
    ⟨(some 2), none, .f (.mv (.c (.bool false)))⟩])
  .ret)
  .skip))
 (.seq (.seq (.reg [
   ⟨(some 114), none, .f (.mv (.t 13))⟩,
   ⟨(some 115), none, .f (.mv (.t 12))⟩,
   ⟨(some 116), none, .f (.bin .neq (.t 114) (.t 115))⟩])
 (.cond (.t 116)
  (.seq (.reg [
    ⟨(some 2), none, .f (.mv (.c (.bool false)))⟩])
  .ret)
  .skip))
 (.seq (.reg [
   ⟨(some 2), none, .f (.mv (.c (.bool true)))⟩])
 .ret)))))))))))))))))))))))))
theorem ok7 : fnComp Try.prog 7 = some (117, c7, [(.mv (.t 2))]) := by kernel_rfl

/-- loop.example/g00003/spec.BoardFirst -/
def c29 : CC :=
 (.seq (.reg [
   ⟨(some 1), none, .x (.box 40 3 (.t 0))⟩,
   ⟨(some 2), none, .x (.zero 40 3 [(.int .i64 0), (.int .i64 0), .nilslice])⟩,
   ⟨(some 3), none, .f (.mv (.c (.int .i64 0)))⟩,
   ⟨(some 4), none, .f (.mv (.c (.int .i64 0)))⟩])
 (.seq (.seq (.reg [
   ⟨(some 5), none, .f (.ldA 3 (.t 1))⟩,
   ⟨(some 6), none, .x (.call 67 [(.t 5)])⟩,
   ⟨(some 7), none, .f (.un .not (.t 6))⟩])
 (.cond (.t 7)
  (.seq (.reg [
    ⟨(some 8), none, .f (.build [(.int .i64 0), (.int .i64 0), .nilslice] [])⟩,
    ⟨none, none, .x (.st 3 (.t 2) (.t 8))⟩,
    ⟨(some 3), none, .f (.mv (.c (.int .i64 0)))⟩,
    ⟨(some 4), none, .f (.mv (.c (.int .i64 1)))⟩])
  .ret)
  .skip))
 (.seq (.reg [
   ⟨(some 9), none, .f (.ldA 3 (.t 1))⟩,
   ⟨(some 10), none, .x (.call 72 [(.t 9)])⟩,
   ⟨none, none, .x (.st 3 (.t 1) (.t 10))⟩])
 (.seq (.seq (.reg [
   ⟨(some 11), none, .f (.fadr 2 (.t 1))⟩,
   ⟨(some 12), none, .f (.ld (.t 11))⟩,
   ⟨(some 13), none, .f (.len (.t 12))⟩,
   ⟨(some 14), none, .f (.bin .eql (.t 13) (.c (.int .i64 0)))⟩,
   ⟨(some 15), none, .f (.mv (.t 14))⟩,
   ⟨(some 16), (some (15, false)), .f (.fadr 2 (.t 1))⟩,
   ⟨(some 17), (some (15, false)), .f (.ld (.t 16))⟩,
   ⟨(some 18), (some (15, false)), .f (.iadr 6 (.t 17) (.c (.int .i64 0)))⟩,
   ⟨(some 19), (some (15, false)), .f (.fadr 4 (.t 18))⟩,
   ⟨(some 20), (some (15, false)), .f (.ld (.t 19))⟩,
   ⟨(some 21), none, .f (.pick (.t 15) (.c (.bool true)) (.t 20))⟩,
   ⟨(some 22), none, .f (.mv (.t 21))⟩,
   ⟨(some 23), (some (22, false)), .f (.fadr 2 (.t 1))⟩,
   ⟨(some 24), (some (22, false)), .f (.ld (.t 23))⟩,
   ⟨(some 25), (some (22, false)), .f (.iadr 6 (.t 24) (.c (.int .i64 0)))⟩,
   ⟨(some 26), (some (22, false)), .f (.fadr 5 (.t 25))⟩,
   ⟨(some 27), (some (22, false)), .f (.ld (.t 26))⟩,
   ⟨(some 28), none, .f (.pick (.t 22) (.c (.bool true)) (.t 27))⟩])
 (.cond (.t 28)
  (.seq (.reg [
    ⟨(some 29), none, .f (.ldA 3 (.t 1))⟩,
    ⟨none, none, .x (.st 3 (.t 2) (.t 29))⟩,
    ⟨(some 3), none, .f (.mv (.c (.int .i64 0)))⟩,
    ⟨(some 4), none, .f (.mv (.c (.int .i64 0)))⟩])
  .ret)
  .skip))
 (.seq (.reg [
   ⟨(some 30), none, .f (.fadr 2 (.t 1))⟩,
   ⟨(some 31), none, .f (.ld (.t 30))⟩,
   ⟨(some 32), none, .f (.iadr 6 (.t 31) (.c (.int .i64 0)))⟩,
   ⟨(some 33), none, .f (.fadr 5 (.t 32))⟩,
   ⟨none, none, .x (.st 1 (.t 33) (.c (.bool true)))⟩])
 (.seq (.dreg [
   ⟨(some 34), none, .f (.ldA 3 (.t 1))⟩,
   ⟨(some 35), none, .f (.fadr 2 (.t 1))⟩,
   ⟨(some 36), none, .f (.ld (.t 35))⟩,
   ⟨(some 37), none, .f (.iadr 6 (.t 36) (.c (.int .i64 0)))⟩,
   ⟨(some 38), none, .f (.fadr 1 (.t 37))⟩,
   ⟨(some 39), none, .f (.ld (.t 38))⟩,
   ⟨(some 40), none, .f (.fadr 2 (.t 1))⟩,
   ⟨(some 41), none, .f (.ld (.t 40))⟩,
   ⟨(some 42), none, .f (.iadr 6 (.t 41) (.c (.int .i64 0)))⟩,
   ⟨(some 43), none, .f (.fadr 0 (.t 42))⟩,
   ⟨(some 44), none, .f (.ld (.t 43))⟩,
   ⟨(some 45), none, .f (.bin .sub (.t 39) (.t 44))⟩,
   ⟨none, none, .x (.st 3 (.t 2) (.t 34))⟩,
   ⟨(some 3), none, .f (.mv (.t 45))⟩,
   ⟨(some 4), none, .f (.mv (.c (.int .i64 0)))⟩]
   [false, false, false, false, false, false, false, false, false, false, false, false, true, false, false] [[], [], [1], [2, 1], [3, 2, 1], [4, 3, 2, 1], [], [6], [7, 6], [8, 7, 6], [9, 8, 7, 6], [5, 4, 3, 2, 1, 10, 9, 8, 7, 6], [0], [11, 5, 4, 3, 2, 1, 10, 9, 8, 7, 6, 12, 0], [13, 11, 5, 4, 3, 2, 1, 10, 9, 8, 7, 6, 12, 0]] [0, 1, 2, 3, 4, 5, 6, 7, 8, 9, 10, 11, 12, 13, 14])
 .ret))))))
theorem ok29 : fnComp Try.prog 29 = some (46, c29, [(.ldA 3 (.t 2)), (.mv (.t 3)), (.mv (.t 4))]) := by kernel_rfl

/-- loop.example/g00003/impl.BoardFirst -/
def c30 : CC :=
 (.seq (.reg [
   ⟨(some 1), none, .x (.box 40 3 (.t 0))⟩,
   ⟨(some 2), none, .x (.zero 40 3 [(.int .i64 0), (.int .i64 0), .nilslice])⟩,
   ⟨(some 3), none, .f (.mv (.c (.int .i64 0)))⟩,
   ⟨(some 4), none, .f (.mv (.c (.int .i64 0)))⟩])
 (.seq (.seq (.reg [
   ⟨(some 7), none, .f (.ldA 3 (.t 1))⟩,
   ⟨(some 8), none, .x (.call 69 [(.t 7)])⟩,
   ⟨(some 9), none, .f (.un .not (.t 8))⟩])
 (.cond (.t 9)
  (.seq (.reg [
    ⟨(some 10), none, .f (.build [(.int .i64 0), (.int .i64 0), .nilslice] [])⟩,
    ⟨none, none, .x (.st 3 (.t 2) (.t 10))⟩,
    ⟨(some 3), none, .f (.mv (.c (.int .i64 0)))⟩,
    ⟨(some 4), none, .f (.mv (.c (.int .i64 1)))⟩])
  .ret)
  .skip))
 (.seq (.reg [
   ⟨(some 11), none, .f (.ldA 3 (.t 1))⟩,
   ⟨(some 12), none, .x (.call 73 [(.t 11)])⟩,
   ⟨(some 13), none, .f (.build [(.int .i64 0), (.int .i64 0), .nilslice] [(0, 3, (.t 12))])⟩,
   ⟨(some 5), none, .x (.zero 116 3 [(.int .i64 0), (.int .i64 0), .nilslice])⟩,
   ⟨none, none, .x (.st 3 (.t 5) (.t 13))⟩])
 (.seq (.reg [
   ⟨(some 14), none, .x (.call 74 [(.t 5)])⟩,
   ⟨(some 6), none, .f (.mv (.t 14))⟩])
 (.seq (.reg [
   ⟨(some 15), none, .f (.fadr 0 (.t 5))⟩,
   ⟨(some 16), none, .f (.ldA 3 (.t 15))⟩,
   ⟨(some 17), none, .f (.mv (.t 6))⟩,
   ⟨none, none, .x (.st 3 (.t 2) (.t 16))⟩,
   ⟨(some 3), none, .f (.mv (.t 17))⟩,
   ⟨(some 4), none, .f (.mv (.c (.int .i64 0)))⟩])
 .ret)))))
theorem ok30 : fnComp Try.prog 30 = some (18, c30, [(.ldA 3 (.t 2)), (.mv (.t 3)), (.mv (.t 4))]) := by kernel_rfl

/-- loop.example/g00003/laws.markBoard -/
def c31 : CC :=
 (.seq (.reg [
   ⟨(some 2), none, .x (.box 40 3 (.t 0))⟩,
   ⟨(some 4), none, .f (.mv (.c (.int .i64 0)))⟩])
 (.seq (.reg [
   ⟨(some 5), none, .f (.fadr 2 (.t 2))⟩,
   ⟨(some 6), none, .f (.ld (.t 5))⟩,
   ⟨(some 7), none, .f (.mv (.t 1))⟩,
   ⟨(some 8), none, .x (.call 75 [(.t 6), (.t 7)])⟩,
   ⟨(some 1), none, .f (.mv (.t 8))⟩])
 (.seq (.reg [
   ⟨(some 9), none, .f (.mv (.t 1))⟩,
   ⟨(some 4), none, .f (.mv (.t 9))⟩])
 .ret)))
theorem ok31 : fnComp Try.prog 31 = some (10, c31, [(.mv (.t 4))]) := by kernel_rfl

/-- loop.example/g00003/laws.heldBoard -/
def c32 : CC :=
 (.seq (.reg [
   ⟨(some 2), none, .x (.box 40 3 (.t 0))⟩,
   ⟨(some 4), none, .f (.mv (.c (.int .i64 0)))⟩])
 (.seq (.reg [
   ⟨(some 5), none, .f (.fadr 2 (.t 2))⟩,
   ⟨(some 6), none, .f (.ld (.t 5))⟩,
   ⟨(some 7), none, .f (.mv (.t 1))⟩,
   ⟨(some 8), none, .x (.call 76 [(.t 6), (.t 7)])⟩,
   ⟨(some 1), none, .f (.mv (.t 8))⟩])
 (.seq (.seq (.reg [
   ⟨(some 9), none, .f (.mv (.t 1))⟩,
   ⟨(some 10), none, .f (.bin .lss (.t 9) (.c (.int .i64 0)))⟩])
 (.cond (.t 10)
  (.seq (.reg [
    ⟨(some 4), none, .f (.mv (.c (.int .i64 (-1))))⟩])
  .ret)
  .skip))
 (.seq (.reg [
   ⟨(some 11), none, .f (.mv (.t 1))⟩,
   ⟨(some 4), none, .f (.mv (.t 11))⟩])
 .ret))))
theorem ok32 : fnComp Try.prog 32 = some (12, c32, [(.mv (.t 4))]) := by kernel_rfl

/-- loop.example/g00003/spec.l15Copy -/
def c72 : CC :=
 (.seq (.reg [
   ⟨(some 1), none, .x (.box 40 3 (.t 0))⟩,
   ⟨(some 2), none, .x (.zero 40 3 [(.int .i64 0), (.int .i64 0), .nilslice])⟩])
 (.seq (.dreg [
   ⟨(some 3), none, .f (.fadr 0 (.t 1))⟩,
   ⟨(some 4), none, .f (.ld (.t 3))⟩,
   ⟨(some 5), none, .f (.fadr 1 (.t 1))⟩,
   ⟨(some 6), none, .f (.ld (.t 5))⟩,
   ⟨(some 7), none, .x (.bslice 113 6 [(.int .i64 0), (.int .i64 0), (.int .i64 0), (.int .i64 0), (.bool false), (.bool false)] 0 [])⟩,
   ⟨(some 8), none, .f (.fadr 2 (.t 1))⟩,
   ⟨(some 9), none, .f (.ld (.t 8))⟩,
   ⟨(some 10), none, .x (.app 113 6 40 (.t 7) (.t 9))⟩,
   ⟨(some 11), none, .f (.build [(.int .i64 0), (.int .i64 0), .nilslice] [(0, 1, (.t 4)), (1, 1, (.t 6)), (2, 1, (.t 10))])⟩,
   ⟨none, none, .x (.st 3 (.t 2) (.t 11))⟩]
   [false, false, false, false, true, false, false, true, false, true] [[], [0], [], [2], [], [], [5], [4, 6, 5], [1, 0, 3, 2, 7, 4, 6, 5], [8, 1, 0, 3, 2, 7, 4, 6, 5]] [0, 1, 2, 3, 5, 6, 4, 7, 8, 9])
 .ret))
theorem ok72 : fnComp Try.prog 72 = some (12, c72, [(.ldA 3 (.t 2))]) := by kernel_rfl


/-- (*loop.example/g00003/impl.board).first -/
def c74 : CC :=
 (.seq (.reg [
   ⟨(some 2), none, .f (.mv (.c (.int .i64 0)))⟩])
 (.seq (.seq (.reg [
   ⟨(some 3), none, .f (.mv (.t 0))⟩,
   ⟨(some 4), none, .f (.nck (.t 3))⟩,
   ⟨(some 5), none, .f (.fadr 0 (.t 4))⟩,
   ⟨(some 6), none, .f (.fadr 2 (.t 5))⟩,
   ⟨(some 7), none, .f (.ld (.t 6))⟩,
   ⟨(some 8), none, .f (.len (.t 7))⟩,
   ⟨(some 9), none, .f (.bin .eql (.t 8) (.c (.int .i64 0)))⟩,
   ⟨(some 10), none, .f (.mv (.t 9))⟩,
   ⟨(some 11), (some (10, false)), .f (.mv (.t 0))⟩,
   ⟨(some 12), (some (10, false)), .f (.nck (.t 11))⟩,
   ⟨(some 13), (some (10, false)), .f (.fadr 0 (.t 12))⟩,
   ⟨(some 14), (some (10, false)), .f (.fadr 2 (.t 13))⟩,
   ⟨(some 15), (some (10, false)), .f (.ld (.t 14))⟩,
   ⟨(some 16), (some (10, false)), .f (.iadr 6 (.t 15) (.c (.int .i64 0)))⟩,
   ⟨(some 17), (some (10, false)), .f (.fadr 4 (.t 16))⟩,
   ⟨(some 18), (some (10, false)), .f (.ld (.t 17))⟩,
   ⟨(some 19), none, .f (.pick (.t 10) (.c (.bool true)) (.t 18))⟩,
   ⟨(some 20), none, .f (.mv (.t 19))⟩,
   ⟨(some 21), (some (20, false)), .f (.mv (.t 0))⟩,
   ⟨(some 22), (some (20, false)), .f (.nck (.t 21))⟩,
   ⟨(some 23), (some (20, false)), .f (.fadr 0 (.t 22))⟩,
   ⟨(some 24), (some (20, false)), .f (.fadr 2 (.t 23))⟩,
   ⟨(some 25), (some (20, false)), .f (.ld (.t 24))⟩,
   ⟨(some 26), (some (20, false)), .f (.iadr 6 (.t 25) (.c (.int .i64 0)))⟩,
   ⟨(some 27), (some (20, false)), .f (.fadr 5 (.t 26))⟩,
   ⟨(some 28), (some (20, false)), .f (.ld (.t 27))⟩,
   ⟨(some 29), none, .f (.pick (.t 20) (.c (.bool true)) (.t 28))⟩])
 (.cond (.t 29)
  (.seq (.reg [
    ⟨(some 2), none, .f (.mv (.c (.int .i64 0)))⟩])
  .ret)
  .skip))
 (.seq (.reg [
   ⟨(some 30), none, .f (.mv (.t 0))⟩,
   ⟨(some 31), none, .f (.nck (.t 30))⟩,
   ⟨(some 32), none, .f (.fadr 0 (.t 31))⟩,
   ⟨(some 33), none, .f (.fadr 2 (.t 32))⟩,
   ⟨(some 34), none, .f (.ld (.t 33))⟩,
   ⟨(some 35), none, .f (.iadr 6 (.t 34) (.c (.int .i64 0)))⟩,
   ⟨(some 36), none, .f (.fadr 5 (.t 35))⟩,
   ⟨none, none, .x (.st 1 (.t 36) (.c (.bool true)))⟩])
 (.seq (.dreg [
   ⟨(some 37), none, .f (.mv (.t 0))⟩,
   ⟨(some 38), none, .f (.nck (.t 37))⟩,
   ⟨(some 39), none, .f (.fadr 0 (.t 38))⟩,
   ⟨(some 40), none, .f (.fadr 2 (.t 39))⟩,
   ⟨(some 41), none, .f (.ld (.t 40))⟩,
   ⟨(some 42), none, .f (.iadr 6 (.t 41) (.c (.int .i64 0)))⟩,
   ⟨(some 43), none, .f (.fadr 1 (.t 42))⟩,
   ⟨(some 44), none, .f (.ld (.t 43))⟩,
   ⟨(some 45), none, .f (.mv (.t 0))⟩,
   ⟨(some 46), none, .f (.nck (.t 45))⟩,
   ⟨(some 47), none, .f (.fadr 0 (.t 46))⟩,
   ⟨(some 48), none, .f (.fadr 2 (.t 47))⟩,
   ⟨(some 49), none, .f (.ld (.t 48))⟩,
   ⟨(some 50), none, .f (.iadr 6 (.t 49) (.c (.int .i64 0)))⟩,
   ⟨(some 51), none, .f (.fadr 0 (.t 50))⟩,
   ⟨(some 52), none, .f (.ld (.t 51))⟩,
   ⟨(some 53), none, .f (.bin .sub (.t 44) (.t 52))⟩,
   ⟨(some 2), none, .f (.mv (.t 53))⟩]
   [false, false, false, false, false, false, false, false, false, false, false, false, false, false, false, false, false, false] [[], [0], [1, 0], [2, 1, 0], [3, 2, 1, 0], [4, 3, 2, 1, 0], [5, 4, 3, 2, 1, 0], [6, 5, 4, 3, 2, 1, 0], [], [8], [9, 8], [10, 9, 8], [11, 10, 9, 8], [12, 11, 10, 9, 8], [13, 12, 11, 10, 9, 8], [14, 13, 12, 11, 10, 9, 8], [7, 6, 5, 4, 3, 2, 1, 0, 15, 14, 13, 12, 11, 10, 9, 8], [16, 7, 6, 5, 4, 3, 2, 1, 0, 15, 14, 13, 12, 11, 10, 9, 8]] [0, 1, 2, 3, 4, 5, 6, 7, 8, 9, 10, 11, 12, 13, 14, 15, 16, 17])
 .ret))))
theorem ok74 : fnComp Try.prog 74 = some (54, c74, [(.mv (.t 2))]) := by kernel_rfl

/-- loop.example/g00003/laws.markPieceS -/
def c75 : CC :=
 (.seq (.reg [
   ⟨(some 4), none, .f (.mv (.c (.int .i64 0)))⟩])
 (.seq (.seq (.reg [
   ⟨(some 5), none, .f (.mv (.c (.int .i64 0)))⟩])
 (.block 0 (.loop (.seq (.seq (.reg [
     ⟨(some 6), none, .f (.mv (.t 5))⟩,
     ⟨(some 7), none, .f (.mv (.t 0))⟩,
     ⟨(some 8), none, .f (.len (.t 7))⟩,
     ⟨(some 9), none, .f (.bin .lss (.t 6) (.t 8))⟩])
   (.cond (.t 9)
    .skip
    (.exit 0)))
   (.seq (.block 1 (.seq (.reg [
      ⟨(some 12), none, .f (.mv (.t 0))⟩,
      ⟨(some 13), none, .f (.mv (.t 5))⟩,
      ⟨(some 14), none, .f (.mv (.t 1))⟩,
      ⟨(some 15), none, .f (.iadr 6 (.t 12) (.t 13))⟩,
      ⟨(some 16), none, .f (.fadr 0 (.t 15))⟩,
      ⟨none, none, .x (.st 1 (.t 16) (.t 14))⟩])
    (.seq (.reg [
      ⟨(some 17), none, .f (.mv (.t 1))⟩,
      ⟨(some 18), none, .f (.bin .add (.t 17) (.c (.int .i64 1)))⟩,
      ⟨(some 1), none, .f (.mv (.t 18))⟩])
    (.seq (.reg [
      ⟨(some 19), none, .f (.mv (.t 0))⟩,
      ⟨(some 20), none, .f (.mv (.t 5))⟩,
      ⟨(some 21), none, .f (.mv (.t 1))⟩,
      ⟨(some 22), none, .f (.iadr 6 (.t 19) (.t 20))⟩,
      ⟨(some 23), none, .f (.fadr 1 (.t 22))⟩,
      ⟨none, none, .x (.st 1 (.t 23) (.t 21))⟩])
    (.seq (.reg [
      ⟨(some 24), none, .f (.mv (.t 1))⟩,
      ⟨(some 25), none, .f (.bin .add (.t 24) (.c (.int .i64 1)))⟩,
      ⟨(some 1), none, .f (.mv (.t 25))⟩])
    (.seq (.reg [
      ⟨(some 26), none, .f (.mv (.t 0))⟩,
      ⟨(some 27), none, .f (.mv (.t 5))⟩,
      ⟨(some 28), none, .f (.mv (.t 1))⟩,
      ⟨(some 29), none, .f (.iadr 6 (.t 26) (.t 27))⟩,
      ⟨(some 30), none, .f (.fadr 2 (.t 29))⟩,
      ⟨none, none, .x (.st 1 (.t 30) (.t 28))⟩])
    (.seq (.reg [
      ⟨(some 31), none, .f (.mv (.t 1))⟩,
      ⟨(some 32), none, .f (.bin .add (.t 31) (.c (.int .i64 1)))⟩,
      ⟨(some 1), none, .f (.mv (.t 32))⟩])
    (.seq (.reg [
      ⟨(some 33), none, .f (.mv (.t 0))⟩,
      ⟨(some 34), none, .f (.mv (.t 5))⟩,
      ⟨(some 35), none, .f (.mv (.t 1))⟩,
      ⟨(some 36), none, .f (.iadr 6 (.t 33) (.t 34))⟩,
      ⟨(some 37), none, .f (.fadr 3 (.t 36))⟩,
      ⟨none, none, .x (.st 1 (.t 37) (.t 35))⟩])
    (.seq (.reg [
      ⟨(some 38), none, .f (.mv (.t 1))⟩,
      ⟨(some 39), none, .f (.bin .add (.t 38) (.c (.int .i64 1)))⟩,
      ⟨(some 1), none, .f (.mv (.t 39))⟩])
    (.seq (.reg [
      ⟨(some 40), none, .f (.mv (.t 0))⟩,
      ⟨(some 41), none, .f (.mv (.t 5))⟩,
      ⟨(some 42), none, .f (.mv (.t 1))⟩,
      ⟨(some 43), none, .f (.bin .rem (.t 42) (.c (.int .i64 3)))⟩,
      ⟨(some 44), none, .f (.bin .eql (.t 43) (.c (.int .i64 0)))⟩,
      ⟨(some 45), none, .f (.iadr 6 (.t 40) (.t 41))⟩,
      ⟨(some 46), none, .f (.fadr 4 (.t 45))⟩,
      ⟨none, none, .x (.st 1 (.t 46) (.t 44))⟩])
    (.seq (.reg [
      ⟨(some 47), none, .f (.mv (.t 1))⟩,
      ⟨(some 48), none, .f (.bin .add (.t 47) (.c (.int .i64 1)))⟩,
      ⟨(some 1), none, .f (.mv (.t 48))⟩])
    (.seq (.reg [
      ⟨(some 49), none, .f (.mv (.t 0))⟩,
      ⟨(some 50), none, .f (.mv (.t 5))⟩,
      ⟨(some 51), none, .f (.mv (.t 1))⟩,
      ⟨(some 52), none, .f (.bin .rem (.t 51) (.c (.int .i64 3)))⟩,
      ⟨(some 53), none, .f (.bin .eql (.t 52) (.c (.int .i64 0)))⟩,
      ⟨(some 54), none, .f (.iadr 6 (.t 49) (.t 50))⟩,
      ⟨(some 55), none, .f (.fadr 5 (.t 54))⟩,
      ⟨none, none, .x (.st 1 (.t 55) (.t 53))⟩])
    (.reg [
      ⟨(some 56), none, .f (.mv (.t 1))⟩,
      ⟨(some 57), none, .f (.bin .add (.t 56) (.c (.int .i64 1)))⟩,
      ⟨(some 1), none, .f (.mv (.t 57))⟩])))))))))))))
   (.reg [
     ⟨(some 10), none, .f (.mv (.t 5))⟩,
     ⟨(some 11), none, .f (.bin .add (.t 10) (.c (.int .i64 1)))⟩,
     ⟨(some 5), none, .f (.mv (.t 11))⟩]))))))
 (.seq (.reg [
   ⟨(some 58), none, .f (.mv (.t 1))⟩,
   ⟨(some 4), none, .f (.mv (.t 58))⟩])
 .ret)))
theorem ok75 : fnComp Try.prog 75 = some (59, c75, [(.mv (.t 4))]) := by kernel_rfl

/-- loop.example/g00003/laws.heldPieceS -/
def c76 : CC :=
 (.seq (.reg [
   ⟨(some 4), none, .f (.mv (.c (.int .i64 0)))⟩])
 (.seq (.seq (.reg [
   ⟨(some 5), none, .f (.mv (.c (.int .i64 0)))⟩])
 (.block 0 (.loop (.seq (.seq (.reg [
     ⟨(some 6), none, .f (.mv (.t 5))⟩,
     ⟨(some 7), none, .f (.mv (.t 0))⟩,
     ⟨(some 8), none, .f (.len (.t 7))⟩,
     ⟨(some 9), none, .f (.bin .lss (.t 6) (.t 8))⟩])
   (.cond (.t 9)
    .skip
    (.exit 0)))
   (.seq (.block 1 (.seq (.seq (.reg [
      ⟨(some 12), none, .f (.mv (.t 0))⟩,
      ⟨(some 13), none, .f (.mv (.t 5))⟩,
      ⟨(some 14), none, .f (.iadr 6 (.t 12) (.t 13))⟩,
      ⟨(some 15), none, .f (.fadr 0 (.t 14))⟩,
      ⟨(some 16), none, .f (.ld (.t 15))⟩,
      ⟨(some 17), none, .f (.mv (.t 1))⟩,
      ⟨(some 18), none, .f (.bin .neq (.t 16) (.t 17))⟩])
    (.cond (.t 18)
     (.seq (.reg [
       ⟨(some 4), none, .f (.mv (.c (.int .i64 (-1))))⟩])
     .ret)
     .skip))
    (.seq (.reg [
      ⟨(some 19), none, .f (.mv (.t 1))⟩,
      ⟨(some 20), none, .f (.bin .add (.t 19) (.c (.int .i64 1)))⟩,
      ⟨(some 1), none, .f (.mv (.t 20))⟩])
    (.seq (.seq (.reg [
      ⟨(some 21), none, .f (.mv (.t 0))⟩,
      ⟨(some 22), none, .f (.mv (.t 5))⟩,
      ⟨(some 23), none, .f (.iadr 6 (.t 21) (.t 22))⟩,
      ⟨(some 24), none, .f (.fadr 1 (.t 23))⟩,
      ⟨(some 25), none, .f (.ld (.t 24))⟩,
      ⟨(some 26), none, .f (.mv (.t 1))⟩,
      ⟨(some 27), none, .f (.bin .neq (.t 25) (.t 26))⟩])
    (.cond (.t 27)
     (.seq (.reg [
       ⟨(some 4), none, .f (.mv (.c (.int .i64 (-1))))⟩])
     .ret)
     .skip))
    (.seq (.reg [
      ⟨(some 28), none, .f (.mv (.t 1))⟩,
      ⟨(some 29), none, .f (.bin .add (.t 28) (.c (.int .i64 1)))⟩,
      ⟨(some 1), none, .f (.mv (.t 29))⟩])
    (.seq (.seq (.reg [
      ⟨(some 30), none, .f (.mv (.t 0))⟩,
      ⟨(some 31), none, .f (.mv (.t 5))⟩,
      ⟨(some 32), none, .f (.iadr 6 (.t 30) (.t 31))⟩,
      ⟨(some 33), none, .f (.fadr 2 (.t 32))⟩,
      ⟨(some 34), none, .f (.ld (.t 33))⟩,
      ⟨(some 35), none, .f (.mv (.t 1))⟩,
      ⟨(some 36), none, .f (.bin .neq (.t 34) (.t 35))⟩])
    (.cond (.t 36)
     (.seq (.reg [
       ⟨(some 4), none, .f (.mv (.c (.int .i64 (-1))))⟩])
     .ret)
     .skip))
    (.seq (.reg [
      ⟨(some 37), none, .f (.mv (.t 1))⟩,
      ⟨(some 38), none, .f (.bin .add (.t 37) (.c (.int .i64 1)))⟩,
      ⟨(some 1), none, .f (.mv (.t 38))⟩])
    (.seq (.seq (.reg [
      ⟨(some 39), none, .f (.mv (.t 0))⟩,
      ⟨(some 40), none, .f (.mv (.t 5))⟩,
      ⟨(some 41), none, .f (.iadr 6 (.t 39) (.t 40))⟩,
      ⟨(some 42), none, .f (.fadr 3 (.t 41))⟩,
      ⟨(some 43), none, .f (.ld (.t 42))⟩,
      ⟨(some 44), none, .f (.mv (.t 1))⟩,
      ⟨(some 45), none, .f (.bin .neq (.t 43) (.t 44))⟩])
    (.cond (.t 45)
     (.seq (.reg [
       ⟨(some 4), none, .f (.mv (.c (.int .i64 (-1))))⟩])
     .ret)
     .skip))
    (.seq (.reg [
      ⟨(some 46), none, .f (.mv (.t 1))⟩,
      ⟨(some 47), none, .f (.bin .add (.t 46) (.c (.int .i64 1)))⟩,
      ⟨(some 1), none, .f (.mv (.t 47))⟩])
    (.seq (.seq (.reg [
      ⟨(some 48), none, .f (.mv (.t 0))⟩,
      ⟨(some 49), none, .f (.mv (.t 5))⟩,
      ⟨(some 50), none, .f (.iadr 6 (.t 48) (.t 49))⟩,
      ⟨(some 51), none, .f (.fadr 4 (.t 50))⟩,
      ⟨(some 52), none, .f (.ld (.t 51))⟩,
      ⟨(some 53), none, .f (.mv (.t 1))⟩,
      ⟨(some 54), none, .f (.bin .rem (.t 53) (.c (.int .i64 3)))⟩,
      ⟨(some 55), none, .f (.bin .eql (.t 54) (.c (.int .i64 0)))⟩,
      ⟨(some 56), none, .f (.binB true (.t 52) (.t 55))⟩])
    (.cond (.t 56)
     (.seq (.reg [
       ⟨(some 4), none, .f (.mv (.c (.int .i64 (-1))))⟩])
     .ret)
     .skip))
    (.seq (.reg [
      ⟨(some 57), none, .f (.mv (.t 1))⟩,
      ⟨(some 58), none, .f (.bin .add (.t 57) (.c (.int .i64 1)))⟩,
      ⟨(some 1), none, .f (.mv (.t 58))⟩])
    (.seq (.seq (.reg [
      ⟨(some 59), none, .f (.mv (.t 0))⟩,
      ⟨(some 60), none, .f (.mv (.t 5))⟩,
      ⟨(some 61), none, .f (.iadr 6 (.t 59) (.t 60))⟩,
      ⟨(some 62), none, .f (.fadr 5 (.t 61))⟩,
      ⟨(some 63), none, .f (.ld (.t 62))⟩,
      ⟨(some 64), none, .f (.mv (.t 1))⟩,
      ⟨(some 65), none, .f (.bin .rem (.t 64) (.c (.int .i64 3)))⟩,
      ⟨(some 66), none, .f (.bin .eql (.t 65) (.c (.int .i64 0)))⟩,
      ⟨(some 67), none, .f (.binB true (.t 63) (.t 66))⟩])
    (.cond (.t 67)
     (.seq (.reg [
       ⟨(some 4), none, .f (.mv (.c (.int .i64 (-1))))⟩])
     .ret)
     .skip))
    (.reg [
      ⟨(some 68), none, .f (.mv (.t 1))⟩,
      ⟨(some 69), none, .f (.bin .add (.t 68) (.c (.int .i64 1)))⟩,
      ⟨(some 1), none, .f (.mv (.t 69))⟩])))))))))))))
   (.reg [
     ⟨(some 10), none, .f (.mv (.t 5))⟩,
     ⟨(some 11), none, .f (.bin .add (.t 10) (.c (.int .i64 1)))⟩,
     ⟨(some 5), none, .f (.mv (.t 11))⟩]))))))
 (.seq (.reg [
   ⟨(some 70), none, .f (.mv (.t 1))⟩,
   ⟨(some 4), none, .f (.mv (.t 70))⟩])
 .ret)))
theorem ok76 : fnComp Try.prog 76 = some (71, c76, [(.mv (.t 4))]) := by kernel_rfl

/-- slices.Clone[[]loop.example/g00003/impl.Piece,loop.example/g00003/impl.Piece] -/
def c98 : CC :=
 (.seq (.reg [
   ⟨(some 2), none, .f (.mv (.c .nilslice))⟩])
 (.seq (.seq (.reg [
   ⟨(some 3), none, .f (.mv (.t 0))⟩,
   ⟨(some 4), none, .f (.eqn .slice false (.t 3) (.c .nilslice))⟩])
 (.cond (.t 4)
  (.seq (.reg [
    ⟨(some 2), none, .f (.mv (.c .nilslice))⟩])
  .ret)
  .skip))
 (.seq (.reg [
   ⟨(some 5), none, .x (.bslice 113 6 [(.int .i64 0), (.int .i64 0), (.int .i64 0), (.int .i64 0), (.bool false), (.bool false)] 0 [])⟩,
   ⟨(some 6), none, .f (.mv (.t 0))⟩,
   ⟨(some 7), none, .x (.app 113 6 40 (.t 5) (.t 6))⟩,
   ⟨(some 2), none, .f (.mv (.t 7))⟩])
 .ret)))
theorem ok98 : fnComp Try.prog 98 = some (8, c98, [(.mv (.t 2))]) := by kernel_rfl

end Go.Proofs.Ytecljenjlncfhaa
