import Derived.Test.YtecljenjlncfhaaIwP
import Derived.Test.YtecljenjlncfhaaProg
import Derived.KernelRfl
set_option linter.unusedVariables false
set_option linter.unusedSimpArgs false
namespace Go.Proofs.Ytecljenjlncfhaa
open Go Go.IW
/-- loop.example/g00003/laws.FnExactBoardPipe -/
def c6 : CC :=
 (.seq (.reg [
   ⟨(some 1), none, .x (.box 35 3 (.t 0))⟩,
   ⟨(some 2), none, .f (.mv (.c (.bool false)))⟩])
 (.seq (.reg [
   ⟨(some 3), none, .f (.mv (.c (.int .i64 1048576)))⟩])
 (.seq (.reg [
   ⟨(some 7), none, .f (.ldA 3 (.t 1))⟩,
   ⟨(some 8), none, .f (.mv (.t 3))⟩,
   ⟨(some 9), none, .x (.call 24 [(.t 7), (.t 8)])⟩,
   ⟨(some 3), none, .f (.mv (.t 9))⟩])
 (.seq (.seq (.reg [
   ⟨(some 10), none, .f (.mv (.t 3))⟩,
   ⟨(some 11), none, .f (.bin .lss (.t 10) (.c (.int .i64 0)))⟩])
 (.cond (.t 11)
  (.seq (.reg [
    ⟨(some 2), none, .f (.mv (.c (.bool true)))⟩])
  .ret)
  .skip))
 (.seq (.reg [
   ⟨(some 12), none, .f (.ldA 3 (.t 1))⟩,
   ⟨(some 13), none, .x (.call 26 [(.t 12)])⟩,
   ⟨(some 14), none, .x (.call 25 [(.t 13)])⟩,
   ⟨(some 4), none, .f (.mv (.t 14))⟩])
 (.seq (.reg [
   ⟨(some 15), none, .f (.ldA 3 (.t 1))⟩,
   ⟨(some 16), none, .x (.call 26 [(.t 15)])⟩,
   ⟨(some 5), none, .x (.zero 40 3 [(.int .i64 0), (.int .i64 0), .nilslice])⟩,
   ⟨none, none, .x (.st 3 (.t 5) (.t 16))⟩])
 (.seq (.reg [
   ⟨(some 17), none, .f (.ldA 3 (.t 5))⟩,
   ⟨(some 18), none, .x (.call 27 [(.t 17)])⟩,
   ⟨(some 6), none, .f (.mv (.t 18))⟩])
 (.seq (.seq (.reg [
   ⟨(some 19), none, .f (.mv (.t 6))⟩,
   ⟨(some 20), none, .f (.mv (.t 4))⟩,
   ⟨(some 21), none, .f (.bin .neq (.t 19) (.t 20))⟩])
 (.cond (.t 21)
  (.seq (.reg [
    ⟨(some 2), none, .f (.mv (.c (.bool false)))⟩])
  .ret)
  .skip))
 (.seq (.seq (.dreg [
   ⟨(some 22), none, .f (.ldA 3 (.t 5))⟩,
   ⟨(some 23), none, .f (.ldA 3 (.t 1))⟩,
   ⟨(some 24), none, .x (.call 26 [(.t 23)])⟩,
   ⟨(some 25), none, .x (.call 28 [(.t 22), (.t 24)])⟩,
   ⟨(some 26), none, .f (.un .not (.t 25))⟩]
   [false, false, true, true, false] [[], [], [1], [0, 2, 1], [3, 0, 2, 1]] [0, 1, 2, 3, 4])
 (.cond (.t 26)
  (.seq (.reg [
    ⟨(some 2), none, .f (.mv (.c (.bool false)))⟩])
  .ret)
  .skip))
 (.seq (.reg [
   ⟨(some 2), none, .f (.mv (.c (.bool true)))⟩])
 .ret))))))))))
theorem ok6 : fnComp Try.prog 6 = some (27, c6, [(.mv (.t 2))]) := by kernel_rfl

/-- loop.example/g00003/spec.BoardPipe -/
def c25 : CC :=
 (.seq (.reg [
   ⟨(some 1), none, .x (.box 40 3 (.t 0))⟩,
   ⟨(some 2), none, .f (.mv (.c (.int .i64 0)))⟩])
 (.seq (.seq (.reg [
   ⟨(some 5), none, .f (.ldA 3 (.t 1))⟩,
   ⟨(some 6), none, .x (.call 67 [(.t 5)])⟩,
   ⟨(some 7), none, .f (.un .not (.t 6))⟩])
 (.cond (.t 7)
  (.seq (.reg [
    ⟨(some 2), none, .f (.mv (.c (.int .i64 (-1))))⟩])
  .ret)
  .skip))
 (.seq (.reg [
   ⟨(some 3), none, .f (.mv (.c (.int .i64 0)))⟩])
 (.seq (.seq (.reg [
   ⟨(some 4), none, .f (.mv (.c (.int .i64 0)))⟩])
 (.block 0 (.loop (.seq (.seq (.reg [
     ⟨(some 8), none, .f (.mv (.t 4))⟩,
     ⟨(some 9), none, .f (.fadr 2 (.t 1))⟩,
     ⟨(some 10), none, .f (.ld (.t 9))⟩,
     ⟨(some 11), none, .f (.len (.t 10))⟩,
     ⟨(some 12), none, .f (.bin .lss (.t 8) (.t 11))⟩])
   (.cond (.t 12)
    .skip
    (.exit 0)))
   (.seq (.block 1 (.seq (.reg [
      ⟨(some 15), none, .f (.fadr 2 (.t 1))⟩,
      ⟨(some 16), none, .f (.ld (.t 15))⟩,
      ⟨(some 17), none, .f (.mv (.t 4))⟩,
      ⟨(some 18), none, .f (.iadr 6 (.t 16) (.t 17))⟩,
      ⟨(some 19), none, .f (.fadr 4 (.t 18))⟩,
      ⟨(some 20), none, .f (.ld (.t 19))⟩,
      ⟨(some 21), none, .f (.un .not (.t 20))⟩,
      ⟨(some 22), none, .f (.mv (.t 21))⟩,
      ⟨(some 23), (some (22, true)), .f (.fadr 2 (.t 1))⟩,
      ⟨(some 24), (some (22, true)), .f (.ld (.t 23))⟩,
      ⟨(some 25), (some (22, true)), .f (.mv (.t 4))⟩,
      ⟨(some 26), (some (22, true)), .f (.iadr 6 (.t 24) (.t 25))⟩,
      ⟨(some 27), (some (22, true)), .f (.fadr 5 (.t 26))⟩,
      ⟨(some 28), (some (22, true)), .f (.ld (.t 27))⟩,
      ⟨(some 29), (some (22, true)), .f (.un .not (.t 28))⟩,
      ⟨(some 30), none, .f (.pick (.t 22) (.t 29) (.c (.bool false)))⟩])
    (.cond (.t 30)
     (.dreg [
       ⟨(some 31), none, .f (.mv (.t 3))⟩,
       ⟨(some 32), none, .f (.fadr 2 (.t 1))⟩,
       ⟨(some 33), none, .f (.ld (.t 32))⟩,
       ⟨(some 34), none, .f (.mv (.t 4))⟩,
       ⟨(some 35), none, .f (.iadr 6 (.t 33) (.t 34))⟩,
       ⟨(some 36), none, .f (.fadr 1 (.t 35))⟩,
       ⟨(some 37), none, .f (.ld (.t 36))⟩,
       ⟨(some 38), none, .f (.bin .add (.t 31) (.t 37))⟩,
       ⟨(some 39), none, .f (.fadr 2 (.t 1))⟩,
       ⟨(some 40), none, .f (.ld (.t 39))⟩,
       ⟨(some 41), none, .f (.mv (.t 4))⟩,
       ⟨(some 42), none, .f (.iadr 6 (.t 40) (.t 41))⟩,
       ⟨(some 43), none, .f (.fadr 0 (.t 42))⟩,
       ⟨(some 44), none, .f (.ld (.t 43))⟩,
       ⟨(some 45), none, .f (.bin .sub (.t 38) (.t 44))⟩,
       ⟨(some 3), none, .f (.mv (.t 45))⟩]
       [false, false, false, false, false, false, false, false, false, false, false, false, false, false, false, true] [[], [], [1], [], [2, 1, 3], [4, 2, 1, 3], [5, 4, 2, 1, 3], [0, 6, 5, 4, 2, 1, 3], [], [8], [], [9, 8, 10], [11, 9, 8, 10], [12, 11, 9, 8, 10], [7, 0, 6, 5, 4, 2, 1, 3, 13, 12, 11, 9, 8, 10], [14, 7, 0, 6, 5, 4, 2, 1, 3, 13, 12, 11, 9, 8, 10]] [0, 1, 2, 3, 4, 5, 6, 7, 8, 9, 10, 11, 12, 13, 14, 15])
     .skip)))
   (.reg [
     ⟨(some 13), none, .f (.mv (.t 4))⟩,
     ⟨(some 14), none, .f (.bin .add (.t 13) (.c (.int .i64 1)))⟩,
     ⟨(some 4), none, .f (.mv (.t 14))⟩]))))))
 (.seq (.reg [
   ⟨(some 46), none, .f (.mv (.t 3))⟩,
   ⟨(some 2), none, .f (.mv (.t 46))⟩])
 .ret)))))
theorem ok25 : fnComp Try.prog 25 = some (47, c25, [(.mv (.t 2))]) := by kernel_rfl

/-- loop.example/g00003/impl.BoardPipe -/
def c27 : CC :=
 (.seq (.reg [
   ⟨(some 1), none, .x (.box 40 3 (.t 0))⟩,
   ⟨(some 2), none, .f (.mv (.c (.int .i64 0)))⟩])
 (.seq (.seq (.reg [
   ⟨(some 4), none, .f (.ldA 3 (.t 1))⟩,
   ⟨(some 5), none, .x (.call 69 [(.t 4)])⟩,
   ⟨(some 6), none, .f (.un .not (.t 5))⟩])
 (.cond (.t 6)
  (.seq (.reg [
    ⟨(some 2), none, .f (.mv (.c (.int .i64 (-1))))⟩])
  .ret)
  .skip))
 (.seq (.reg [
   ⟨(some 7), none, .f (.ldA 3 (.t 1))⟩,
   ⟨(some 8), none, .f (.build [(.int .i64 0), (.int .i64 0), .nilslice] [(0, 3, (.t 7))])⟩,
   ⟨(some 3), none, .x (.zero 116 3 [(.int .i64 0), (.int .i64 0), .nilslice])⟩,
   ⟨none, none, .x (.st 3 (.t 3) (.t 8))⟩])
 (.seq (.reg [
   ⟨(some 9), none, .x (.call 70 [(.t 3)])⟩,
   ⟨(some 2), none, .f (.mv (.t 9))⟩])
 .ret))))
theorem ok27 : fnComp Try.prog 27 = some (10, c27, [(.mv (.t 2))]) := by kernel_rfl

/-- (*loop.example/g00003/impl.board).pipe -/
def c70 : CC :=
 (.seq (.reg [
   ⟨(some 2), none, .f (.mv (.c (.int .i64 0)))⟩])
 (.seq (.reg [
   ⟨(some 3), none, .f (.mv (.c (.int .i64 0)))⟩])
 (.seq (.seq (.reg [
   ⟨(some 6), none, .f (.mv (.t 0))⟩,
   ⟨(some 7), none, .f (.nck (.t 6))⟩,
   ⟨(some 8), none, .f (.fadr 0 (.t 7))⟩,
   ⟨(some 9), none, .f (.fadr 2 (.t 8))⟩,
   ⟨(some 10), none, .f (.ld (.t 9))⟩,
   ⟨(some 11), none, .f (.len (.t 10))⟩,
   ⟨(some 12), none, .f (.mv (.c (.int .i64 0)))⟩])
 (.block 0 (.loop (.seq (.reg [
     ⟨(some 13), none, .f (.bin .lss (.t 12) (.t 11))⟩])
   (.seq (.cond (.t 13)
    .skip
    (.exit 0))
   (.seq (.block 1 (.seq (.reg [
      ⟨(some 14), none, .f (.iadr 6 (.t 10) (.t 12))⟩,
      ⟨(some 15), none, .f (.ldA 6 (.t 14))⟩,
      ⟨(some 5), none, .x (.zero 113 6 [(.int .i64 0), (.int .i64 0), (.int .i64 0), (.int .i64 0), (.bool false), (.bool false)])⟩,
      ⟨none, none, .x (.st 6 (.t 5) (.t 15))⟩])
    (.seq (.reg [
      ⟨(some 16), none, .f (.fadr 4 (.t 5))⟩,
      ⟨(some 17), none, .f (.ld (.t 16))⟩,
      ⟨(some 18), none, .f (.un .not (.t 17))⟩,
      ⟨(some 19), none, .f (.mv (.t 18))⟩,
      ⟨(some 20), (some (19, true)), .f (.fadr 5 (.t 5))⟩,
      ⟨(some 21), (some (19, true)), .f (.ld (.t 20))⟩,
      ⟨(some 22), (some (19, true)), .f (.un .not (.t 21))⟩,
      ⟨(some 23), none, .f (.pick (.t 19) (.t 22) (.c (.bool false)))⟩])
    (.cond (.t 23)
     (.reg [
       ⟨(some 24), none, .f (.mv (.t 3))⟩,
       ⟨(some 25), none, .f (.fadr 1 (.t 5))⟩,
       ⟨(some 26), none, .f (.ld (.t 25))⟩,
       ⟨(some 27), none, .f (.fadr 0 (.t 5))⟩,
       ⟨(some 28), none, .f (.ld (.t 27))⟩,
       ⟨(some 29), none, .f (.bin .sub (.t 26) (.t 28))⟩,
       ⟨(some 30), none, .f (.bin .add (.t 24) (.t 29))⟩,
       ⟨(some 3), none, .f (.mv (.t 30))⟩])
     .skip))))
   (.reg [
     ⟨(some 31), none, .f (.bin .add (.t 12) (.c (.int .i64 1)))⟩,
     ⟨(some 12), none, .f (.mv (.t 31))⟩])))))))
 (.seq (.reg [
   ⟨(some 32), none, .f (.mv (.t 3))⟩,
   ⟨(some 2), none, .f (.mv (.t 32))⟩])
 .ret))))
theorem ok70 : fnComp Try.prog 70 = some (33, c70, [(.mv (.t 2))]) := by kernel_rfl

/-- loop.example/g00003/spec.l15OK -/
def c67 : CC :=
 (.seq (.reg [
   ⟨(some 1), none, .x (.box 40 3 (.t 0))⟩,
   ⟨(some 2), none, .f (.mv (.c (.bool false)))⟩])
 (.seq (.seq (.reg [
   ⟨(some 6), none, .f (.fadr 0 (.t 1))⟩,
   ⟨(some 7), none, .f (.ld (.t 6))⟩,
   ⟨(some 8), none, .f (.bin .lss (.t 7) (.c (.int .i64 0)))⟩,
   ⟨(some 9), none, .f (.mv (.t 8))⟩,
   ⟨(some 10), (some (9, false)), .f (.fadr 0 (.t 1))⟩,
   ⟨(some 11), (some (9, false)), .f (.ld (.t 10))⟩,
   ⟨(some 12), (some (9, false)), .f (.fadr 1 (.t 1))⟩,
   ⟨(some 13), (some (9, false)), .f (.ld (.t 12))⟩,
   ⟨(some 14), (some (9, false)), .f (.bin .gtr (.t 11) (.t 13))⟩,
   ⟨(some 15), none, .f (.pick (.t 9) (.c (.bool true)) (.t 14))⟩,
   ⟨(some 16), none, .f (.mv (.t 15))⟩,
   ⟨(some 17), (some (16, false)), .f (.fadr 1 (.t 1))⟩,
   ⟨(some 18), (some (16, false)), .f (.ld (.t 17))⟩,
   ⟨(some 19), (some (16, false)), .f (.bin .gtr (.t 18) (.c (.int .i64 1099511627776)))⟩,
   ⟨(some 20), none, .f (.pick (.t 16) (.c (.bool true)) (.t 19))⟩,
   ⟨(some 21), none, .f (.mv (.t 20))⟩,
   ⟨(some 22), (some (21, false)), .f (.fadr 2 (.t 1))⟩,
   ⟨(some 23), (some (21, false)), .f (.ld (.t 22))⟩,
   ⟨(some 24), (some (21, false)), .f (.len (.t 23))⟩,
   ⟨(some 25), (some (21, false)), .f (.bin .gtr (.t 24) (.c (.int .i64 4096)))⟩,
   ⟨(some 26), none, .f (.pick (.t 21) (.c (.bool true)) (.t 25))⟩])
 (.cond (.t 26)
  (.seq (.reg [
    ⟨(some 2), none, .f (.mv (.c (.bool false)))⟩])
  .ret)
  .skip))
 (.seq (.reg [
   ⟨(some 27), none, .f (.fadr 0 (.t 1))⟩,
   ⟨(some 28), none, .f (.ld (.t 27))⟩,
   ⟨(some 3), none, .f (.mv (.t 28))⟩])
 (.seq (.seq (.reg [
   ⟨(some 4), none, .f (.mv (.c (.int .i64 0)))⟩])
 (.block 0 (.loop (.seq (.seq (.reg [
     ⟨(some 29), none, .f (.mv (.t 4))⟩,
     ⟨(some 30), none, .f (.fadr 2 (.t 1))⟩,
     ⟨(some 31), none, .f (.ld (.t 30))⟩,
     ⟨(some 32), none, .f (.len (.t 31))⟩,
     ⟨(some 33), none, .f (.bin .lss (.t 29) (.t 32))⟩])
   (.cond (.t 33)
    .skip
    (.exit 0)))
   (.seq (.block 1 (.seq (.reg [
      ⟨(some 36), none, .f (.fadr 2 (.t 1))⟩,
      ⟨(some 37), none, .f (.ld (.t 36))⟩,
      ⟨(some 38), none, .f (.mv (.t 4))⟩,
      ⟨(some 39), none, .f (.iadr 6 (.t 37) (.t 38))⟩,
      ⟨(some 40), none, .f (.ldA 6 (.t 39))⟩,
      ⟨(some 5), none, .x (.zero 113 6 [(.int .i64 0), (.int .i64 0), (.int .i64 0), (.int .i64 0), (.bool false), (.bool false)])⟩,
      ⟨none, none, .x (.st 6 (.t 5) (.t 40))⟩])
    (.seq (.seq (.reg [
      ⟨(some 41), none, .f (.fadr 0 (.t 5))⟩,
      ⟨(some 42), none, .f (.ld (.t 41))⟩,
      ⟨(some 43), none, .f (.mv (.t 3))⟩,
      ⟨(some 44), none, .f (.bin .neq (.t 42) (.t 43))⟩,
      ⟨(some 45), none, .f (.mv (.t 44))⟩,
      ⟨(some 46), (some (45, false)), .f (.fadr 1 (.t 5))⟩,
      ⟨(some 47), (some (45, false)), .f (.ld (.t 46))⟩,
      ⟨(some 48), (some (45, false)), .f (.fadr 0 (.t 5))⟩,
      ⟨(some 49), (some (45, false)), .f (.ld (.t 48))⟩,
      ⟨(some 50), (some (45, false)), .f (.bin .leq (.t 47) (.t 49))⟩,
      ⟨(some 51), none, .f (.pick (.t 45) (.c (.bool true)) (.t 50))⟩,
      ⟨(some 52), none, .f (.mv (.t 51))⟩,
      ⟨(some 53), (some (52, false)), .f (.fadr 2 (.t 5))⟩,
      ⟨(some 54), (some (52, false)), .f (.ld (.t 53))⟩,
      ⟨(some 55), (some (52, false)), .x (.call 77 [(.t 54), (.c (.int .i64 0)), (.c (.int .i64 1000000000))])⟩,
      ⟨(some 56), (some (52, false)), .f (.un .not (.t 55))⟩,
      ⟨(some 57), none, .f (.pick (.t 52) (.c (.bool true)) (.t 56))⟩,
      ⟨(some 58), none, .f (.mv (.t 57))⟩,
      ⟨(some 59), (some (58, false)), .f (.fadr 3 (.t 5))⟩,
      ⟨(some 60), (some (58, false)), .f (.ld (.t 59))⟩,
      ⟨(some 61), (some (58, false)), .x (.call 77 [(.t 60), (.c (.int .i64 1)), (.c (.int .i64 1000000))])⟩,
      ⟨(some 62), (some (58, false)), .f (.un .not (.t 61))⟩,
      ⟨(some 63), none, .f (.pick (.t 58) (.c (.bool true)) (.t 62))⟩,
      ⟨(some 64), none, .f (.mv (.t 63))⟩,
      ⟨(some 65), (some (64, false)), .f (.fadr 4 (.t 5))⟩,
      ⟨(some 66), (some (64, false)), .f (.ld (.t 65))⟩,
      ⟨(some 67), (some (64, false)), .f (.mv (.t 66))⟩,
      ⟨(some 68), (some (67, true)), .f (.fadr 5 (.t 5))⟩,
      ⟨(some 69), (some (67, true)), .f (.ld (.t 68))⟩,
      ⟨(some 70), (some (64, false)), .f (.pick (.t 67) (.t 69) (.c (.bool false)))⟩,
      ⟨(some 71), none, .f (.pick (.t 64) (.c (.bool true)) (.t 70))⟩])
    (.cond (.t 71)
     (.seq (.reg [
       ⟨(some 2), none, .f (.mv (.c (.bool false)))⟩])
     .ret)
     .skip))
    (.reg [
      ⟨(some 72), none, .f (.fadr 1 (.t 5))⟩,
      ⟨(some 73), none, .f (.ld (.t 72))⟩,
      ⟨(some 3), none, .f (.mv (.t 73))⟩]))))
   (.reg [
     ⟨(some 34), none, .f (.mv (.t 4))⟩,
     ⟨(some 35), none, .f (.bin .add (.t 34) (.c (.int .i64 1)))⟩,
     ⟨(some 4), none, .f (.mv (.t 35))⟩]))))))
 (.seq (.reg [
   ⟨(some 74), none, .f (.mv (.t 3))⟩,
   ⟨(some 75), none, .f (.fadr 1 (.t 1))⟩,
   ⟨(some 76), none, .f (.ld (.t 75))⟩,
   ⟨(some 77), none, .f (.bin .eql (.t 74) (.t 76))⟩,
   ⟨(some 2), none, .f (.mv (.t 77))⟩])
 .ret)))))
theorem ok67 : fnComp Try.prog 67 = some (78, c67, [(.mv (.t 2))]) := by kernel_rfl

/-- loop.example/g00003/impl.okBoard -/
def c69 : CC :=
 (.seq (.reg [
   ⟨(some 1), none, .x (.box 40 3 (.t 0))⟩,
   ⟨(some 2), none, .f (.mv (.c (.bool false)))⟩])
 (.seq (.seq (.reg [
   ⟨(some 6), none, .f (.fadr 0 (.t 1))⟩,
   ⟨(some 7), none, .f (.ld (.t 6))⟩,
   ⟨(some 8), none, .f (.bin .lss (.t 7) (.c (.int .i64 0)))⟩,
   ⟨(some 9), none, .f (.mv (.t 8))⟩,
   ⟨(some 10), (some (9, false)), .f (.fadr 0 (.t 1))⟩,
   ⟨(some 11), (some (9, false)), .f (.ld (.t 10))⟩,
   ⟨(some 12), (some (9, false)), .f (.fadr 1 (.t 1))⟩,
   ⟨(some 13), (some (9, false)), .f (.ld (.t 12))⟩,
   ⟨(some 14), (some (9, false)), .f (.bin .gtr (.t 11) (.t 13))⟩,
   ⟨(some 15), none, .f (.pick (.t 9) (.c (.bool true)) (.t 14))⟩,
   ⟨(some 16), none, .f (.mv (.t 15))⟩,
   ⟨(some 17), (some (16, false)), .f (.fadr 1 (.t 1))⟩,
   ⟨(some 18), (some (16, false)), .f (.ld (.t 17))⟩,
   ⟨(some 19), (some (16, false)), .f (.bin .gtr (.t 18) (.c (.int .i64 1099511627776)))⟩,
   ⟨(some 20), none, .f (.pick (.t 16) (.c (.bool true)) (.t 19))⟩,
   ⟨(some 21), none, .f (.mv (.t 20))⟩,
   ⟨(some 22), (some (21, false)), .f (.fadr 2 (.t 1))⟩,
   ⟨(some 23), (some (21, false)), .f (.ld (.t 22))⟩,
   ⟨(some 24), (some (21, false)), .f (.len (.t 23))⟩,
   ⟨(some 25), (some (21, false)), .f (.bin .gtr (.t 24) (.c (.int .i64 4096)))⟩,
   ⟨(some 26), none, .f (.pick (.t 21) (.c (.bool true)) (.t 25))⟩])
 (.cond (.t 26)
  (.seq (.reg [
    ⟨(some 2), none, .f (.mv (.c (.bool false)))⟩])
  .ret)
  .skip))
 (.seq (.reg [
   ⟨(some 27), none, .f (.fadr 0 (.t 1))⟩,
   ⟨(some 28), none, .f (.ld (.t 27))⟩,
   ⟨(some 3), none, .f (.mv (.t 28))⟩])
 (.seq (.seq (.reg [
   ⟨(some 29), none, .f (.fadr 2 (.t 1))⟩,
   ⟨(some 30), none, .f (.ld (.t 29))⟩,
   ⟨(some 31), none, .f (.len (.t 30))⟩,
   ⟨(some 32), none, .f (.mv (.c (.int .i64 0)))⟩])
 (.block 0 (.loop (.seq (.reg [
     ⟨(some 33), none, .f (.bin .lss (.t 32) (.t 31))⟩])
   (.seq (.cond (.t 33)
    .skip
    (.exit 0))
   (.seq (.block 1 (.seq (.reg [
      ⟨(some 34), none, .f (.iadr 6 (.t 30) (.t 32))⟩,
      ⟨(some 35), none, .f (.ldA 6 (.t 34))⟩,
      ⟨(some 5), none, .x (.zero 113 6 [(.int .i64 0), (.int .i64 0), (.int .i64 0), (.int .i64 0), (.bool false), (.bool false)])⟩,
      ⟨none, none, .x (.st 6 (.t 5) (.t 35))⟩])
    (.seq (.seq (.reg [
      ⟨(some 36), none, .f (.fadr 0 (.t 5))⟩,
      ⟨(some 37), none, .f (.ld (.t 36))⟩,
      ⟨(some 38), none, .f (.mv (.t 3))⟩,
      ⟨(some 39), none, .f (.bin .neq (.t 37) (.t 38))⟩,
      ⟨(some 40), none, .f (.mv (.t 39))⟩,
      ⟨(some 41), (some (40, false)), .f (.fadr 1 (.t 5))⟩,
      ⟨(some 42), (some (40, false)), .f (.ld (.t 41))⟩,
      ⟨(some 43), (some (40, false)), .f (.fadr 0 (.t 5))⟩,
      ⟨(some 44), (some (40, false)), .f (.ld (.t 43))⟩,
      ⟨(some 45), (some (40, false)), .f (.bin .leq (.t 42) (.t 44))⟩,
      ⟨(some 46), none, .f (.pick (.t 40) (.c (.bool true)) (.t 45))⟩,
      ⟨(some 47), none, .f (.mv (.t 46))⟩,
      ⟨(some 48), (some (47, false)), .f (.fadr 2 (.t 5))⟩,
      ⟨(some 49), (some (47, false)), .f (.ld (.t 48))⟩,
      ⟨(some 50), (some (47, false)), .f (.bin .lss (.t 49) (.c (.int .i64 0)))⟩,
      ⟨(some 51), none, .f (.pick (.t 47) (.c (.bool true)) (.t 50))⟩,
      ⟨(some 52), none, .f (.mv (.t 51))⟩,
      ⟨(some 53), (some (52, false)), .f (.fadr 2 (.t 5))⟩,
      ⟨(some 54), (some (52, false)), .f (.ld (.t 53))⟩,
      ⟨(some 55), (some (52, false)), .f (.bin .gtr (.t 54) (.c (.int .i64 1000000000)))⟩,
      ⟨(some 56), none, .f (.pick (.t 52) (.c (.bool true)) (.t 55))⟩,
      ⟨(some 57), none, .f (.mv (.t 56))⟩,
      ⟨(some 58), (some (57, false)), .f (.fadr 3 (.t 5))⟩,
      ⟨(some 59), (some (57, false)), .f (.ld (.t 58))⟩,
      ⟨(some 60), (some (57, false)), .f (.bin .lss (.t 59) (.c (.int .i64 1)))⟩,
      ⟨(some 61), none, .f (.pick (.t 57) (.c (.bool true)) (.t 60))⟩,
      ⟨(some 62), none, .f (.mv (.t 61))⟩,
      ⟨(some 63), (some (62, false)), .f (.fadr 3 (.t 5))⟩,
      ⟨(some 64), (some (62, false)), .f (.ld (.t 63))⟩,
      ⟨(some 65), (some (62, false)), .f (.bin .gtr (.t 64) (.c (.int .i64 1000000)))⟩,
      ⟨(some 66), none, .f (.pick (.t 62) (.c (.bool true)) (.t 65))⟩,
      ⟨(some 67), none, .f (.mv (.t 66))⟩,
      ⟨(some 68), (some (67, false)), .f (.fadr 4 (.t 5))⟩,
      ⟨(some 69), (some (67, false)), .f (.ld (.t 68))⟩,
      ⟨(some 70), (some (67, false)), .f (.mv (.t 69))⟩,
      ⟨(some 71), (some (70, true)), .f (.fadr 5 (.t 5))⟩,
      ⟨(some 72), (some (70, true)), .f (.ld (.t 71))⟩,
      ⟨(some 73), (some (67, false)), .f (.pick (.t 70) (.t 72) (.c (.bool false)))⟩,
      ⟨(some 74), none, .f (.pick (.t 67) (.c (.bool true)) (.t 73))⟩])
    (.cond (.t 74)
     (.seq (.reg [
       ⟨(some 2), none, .f (.mv (.c (.bool false)))⟩])
     .ret)
     .skip))
    (.reg [
      ⟨(some 75), none, .f (.fadr 1 (.t 5))⟩,
      ⟨(some 76), none, .f (.ld (.t 75))⟩,
      ⟨(some 3), none, .f (.mv (.t 76))⟩]))))
   (.reg [
     ⟨(some 77), none, .f (.bin .add (.t 32) (.c (.int .i64 1)))⟩,
     ⟨(some 32), none, .f (.mv (.t 77))⟩])))))))
 (.seq (.reg [
   ⟨(some 78), none, .f (.mv (.t 3))⟩,
   ⟨(some 79), none, .f (.fadr 1 (.t 1))⟩,
   ⟨(some 80), none, .f (.ld (.t 79))⟩,
   ⟨(some 81), none, .f (.bin .eql (.t 78) (.t 80))⟩,
   ⟨(some 2), none, .f (.mv (.t 81))⟩])
 .ret)))))
theorem ok69 : fnComp Try.prog 69 = some (82, c69, [(.mv (.t 2))]) := by kernel_rfl

/-- loop.example/g00003/spec.l01In -/
def c77 : CC :=
 (.seq (.reg [
   ⟨(some 6), none, .f (.mv (.c (.bool false)))⟩])
 (.seq (.reg [
   ⟨(some 7), none, .f (.mv (.t 0))⟩,
   ⟨(some 8), none, .f (.mv (.t 1))⟩,
   ⟨(some 9), none, .f (.bin .geq (.t 7) (.t 8))⟩,
   ⟨(some 10), none, .f (.mv (.t 9))⟩,
   ⟨(some 11), (some (10, true)), .f (.mv (.t 0))⟩,
   ⟨(some 12), (some (10, true)), .f (.mv (.t 2))⟩,
   ⟨(some 13), (some (10, true)), .f (.bin .leq (.t 11) (.t 12))⟩,
   ⟨(some 14), none, .f (.pick (.t 10) (.t 13) (.c (.bool false)))⟩,
   ⟨(some 6), none, .f (.mv (.t 14))⟩])
 .ret))
theorem ok77 : fnComp Try.prog 77 = some (15, c77, [(.mv (.t 6))]) := by kernel_rfl

/-- loop.example/g00003/laws.eqBoard -/
def c28 : CC :=
 (.seq (.reg [
   ⟨(some 2), none, .x (.box 40 3 (.t 0))⟩,
   ⟨(some 3), none, .x (.box 40 3 (.t 1))⟩,
   ⟨(some 4), none, .f (.mv (.c (.bool false)))⟩])
 (.seq (.seq (.reg [
   ⟨(some 5), none, .f (.fadr 0 (.t 2))⟩,
   ⟨(some 6), none, .f (.ld (.t 5))⟩,
   ⟨(some 7), none, .f (.fadr 0 (.t 3))⟩,
   ⟨(some 8), none, .f (.ld (.t 7))⟩,
   ⟨(some 9), none, .f (.bin .neq (.t 6) (.t 8))⟩])
 (.cond (.t 9)
  (.seq (.reg [
    ⟨(some 4), none, .f (.mv (.c (.bool false)))⟩])
  .ret)
  .skip))
 (.seq (.seq (.reg [
   ⟨(some 10), none, .f (.fadr 1 (.t 2))⟩,
   ⟨(some 11), none, .f (.ld (.t 10))⟩,
   ⟨(some 12), none, .f (.fadr 1 (.t 3))⟩,
   ⟨(some 13), none, .f (.ld (.t 12))⟩,
   ⟨(some 14), none, .f (.bin .neq (.t 11) (.t 13))⟩])
 (.cond (.t 14)
  (.seq (.reg [
    ⟨(some 4), none, .f (.mv (.c (.bool false)))⟩])
  .ret)
  .skip))
 (.seq (.seq (.reg [
   ⟨(some 15), none, .f (.fadr 2 (.t 2))⟩,
   ⟨(some 16), none, .f (.ld (.t 15))⟩,
   ⟨(some 17), none, .f (.fadr 2 (.t 3))⟩,
   ⟨(some 18), none, .f (.ld (.t 17))⟩,
   ⟨(some 19), none, .x (.call 71 [(.t 16), (.t 18)])⟩,
   ⟨(some 20), none, .f (.un .not (.t 19))⟩])
 (.cond (.t 20)
  (.seq (.reg [
    ⟨(some 4), none, .f (.mv (.c (.bool false)))⟩])
  .ret)
  .skip))
 (.seq (.reg [
   ⟨(some 4), none, .f (.mv (.c (.bool true)))⟩])
 .ret)))))
theorem ok28 : fnComp Try.prog 28 = some (21, c28, [(.mv (.t 4))]) := by kernel_rfl

/-- loop.example/g00003/laws.eqPieceS -/
def c71 : CC :=
 (.seq (.reg [
   ⟨(some 4), none, .f (.mv (.c (.bool false)))⟩])
 (.seq (.seq (.reg [
   ⟨(some 6), none, .f (.mv (.t 0))⟩,
   ⟨(some 7), none, .f (.len (.t 6))⟩,
   ⟨(some 8), none, .f (.mv (.t 1))⟩,
   ⟨(some 9), none, .f (.len (.t 8))⟩,
   ⟨(some 10), none, .f (.bin .neq (.t 7) (.t 9))⟩])
 (.cond (.t 10)
  (.seq (.reg [
    ⟨(some 4), none, .f (.mv (.c (.bool false)))⟩])
  .ret)
  .skip))
 (.seq (.seq (.reg [
   ⟨(some 5), none, .f (.mv (.c (.int .i64 0)))⟩])
 (.block 0 (.loop (.seq (.seq (.reg [
     ⟨(some 11), none, .f (.mv (.t 5))⟩,
     ⟨(some 12), none, .f (.mv (.t 0))⟩,
     ⟨(some 13), none, .f (.len (.t 12))⟩,
     ⟨(some 14), none, .f (.bin .lss (.t 11) (.t 13))⟩])
   (.cond (.t 14)
    .skip
    (.exit 0)))
   (.seq (.block 1 (.seq (.dreg [
      ⟨(some 17), none, .f (.mv (.t 0))⟩,
      ⟨(some 18), none, .f (.mv (.t 5))⟩,
      ⟨(some 19), none, .f (.iadr 6 (.t 17) (.t 18))⟩,
      ⟨(some 20), none, .f (.ldA 6 (.t 19))⟩,
      ⟨(some 21), none, .f (.mv (.t 1))⟩,
      ⟨(some 22), none, .f (.mv (.t 5))⟩,
      ⟨(some 23), none, .f (.iadr 6 (.t 21) (.t 22))⟩,
      ⟨(some 24), none, .f (.ldA 6 (.t 23))⟩,
      ⟨(some 25), none, .x (.call 97 [(.t 20), (.t 24)])⟩,
      ⟨(some 26), none, .f (.un .not (.t 25))⟩]
      [false, false, false, false, false, false, false, false, true, false] [[], [], [0, 1], [2, 0, 1], [], [], [4, 5], [6, 4, 5], [3, 2, 0, 1, 7, 6, 4, 5], [8, 3, 2, 0, 1, 7, 6, 4, 5]] [0, 1, 2, 3, 4, 5, 6, 7, 8, 9])
    (.cond (.t 26)
     (.seq (.reg [
       ⟨(some 4), none, .f (.mv (.c (.bool false)))⟩])
     .ret)
     .skip)))
   (.reg [
     ⟨(some 15), none, .f (.mv (.t 5))⟩,
     ⟨(some 16), none, .f (.bin .add (.t 15) (.c (.int .i64 1)))⟩,
     ⟨(some 5), none, .f (.mv (.t 16))⟩]))))))
 (.seq (.reg [
   ⟨(some 4), none, .f (.mv (.c (.bool true)))⟩])
 .ret))))
theorem ok71 : fnComp Try.prog 71 = some (27, c71, [(.mv (.t 4))]) := by kernel_rfl

/-- loop.example/g00003/laws.eqPiece -/
def c97 : CC :=
 (.seq (.reg [
   ⟨(some 2), none, .x (.box 113 6 (.t 0))⟩,
   ⟨(some 3), none, .x (.box 113 6 (.t 1))⟩,
   ⟨(some 4), none, .f (.mv (.c (.bool false)))⟩])
 (.seq (.seq (.reg [
   ⟨(some 5), none, .f (.fadr 0 (.t 2))⟩,
   ⟨(some 6), none, .f (.ld (.t 5))⟩,
   ⟨(some 7), none, .f (.fadr 0 (.t 3))⟩,
   ⟨(some 8), none, .f (.ld (.t 7))⟩,
   ⟨(some 9), none, .f (.bin .neq (.t 6) (.t 8))⟩])
 (.cond (.t 9)
  (.seq (.reg [
    ⟨(some 4), none, .f (.mv (.c (.bool false)))⟩])
  .ret)
  .skip))
 (.seq (.seq (.reg [
   ⟨(some 10), none, .f (.fadr 1 (.t 2))⟩,
   ⟨(some 11), none, .f (.ld (.t 10))⟩,
   ⟨(some 12), none, .f (.fadr 1 (.t 3))⟩,
   ⟨(some 13), none, .f (.ld (.t 12))⟩,
   ⟨(some 14), none, .f (.bin .neq (.t 11) (.t 13))⟩])
 (.cond (.t 14)
  (.seq (.reg [
    ⟨(some 4), none, .f (.mv (.c (.bool false)))⟩])
  .ret)
  .skip))
 (.seq (.seq (.reg [
   ⟨(some 15), none, .f (.fadr 2 (.t 2))⟩,
   ⟨(some 16), none, .f (.ld (.t 15))⟩,
   ⟨(some 17), none, .f (.fadr 2 (.t 3))⟩,
   ⟨(some 18), none, .f (.ld (.t 17))⟩,
   ⟨(some 19), none, .f (.bin .neq (.t 16) (.t 18))⟩])
 (.cond (.t 19)
  (.seq (.reg [
    ⟨(some 4), none, .f (.mv (.c (.bool false)))⟩])
  .ret)
  .skip))
 (.seq (.seq (.reg [
   ⟨(some 20), none, .f (.fadr 3 (.t 2))⟩,
   ⟨(some 21), none, .f (.ld (.t 20))⟩,
   ⟨(some 22), none, .f (.fadr 3 (.t 3))⟩,
   ⟨(some 23), none, .f (.ld (.t 22))⟩,
   ⟨(some 24), none, .f (.bin .neq (.t 21) (.t 23))⟩])
 (.cond (.t 24)
  (.seq (.reg [
    ⟨(some 4), none, .f (.mv (.c (.bool false)))⟩])
  .ret)
  .skip))
 (.seq (.seq (.reg [
   ⟨(some 25), none, .f (.fadr 4 (.t 2))⟩,
   ⟨(some 26), none, .f (.ld (.t 25))⟩,
   ⟨(some 27), none, .f (.fadr 4 (.t 3))⟩,
   ⟨(some 28), none, .f (.ld (.t 27))⟩,
   ⟨(some 29), none, .f (.binB true (.t 26) (.t 28))⟩])
 (.cond (.t 29)
  (.seq (.reg [
    ⟨(some 4), none, .f (.mv (.c (.bool false)))⟩])
  .ret)
  .skip))
 (.seq (.seq (.reg [
   ⟨(some 30), none, .f (.fadr 5 (.t 2))⟩,
   ⟨(some 31), none, .f (.ld (.t 30))⟩,
   ⟨(some 32), none, .f (.fadr 5 (.t 3))⟩,
   ⟨(some 33), none, .f (.ld (.t 32))⟩,
   ⟨(some 34), none, .f (.binB true (.t 31) (.t 33))⟩])
 (.cond (.t 34)
  (.seq (.reg [
    ⟨(some 4), none, .f (.mv (.c (.bool false)))⟩])
  .ret)
  .skip))
 (.seq (.reg [
   ⟨(some 4), none, .f (.mv (.c (.bool true)))⟩])
 .ret))))))))
theorem ok97 : fnComp Try.prog 97 = some (35, c97, [(.mv (.t 4))]) := by kernel_rfl

/-- loop.example/g00003/laws.toBoard -/
def c26 : CC :=
 (.seq (.reg [
   ⟨(some 1), none, .x (.box 35 3 (.t 0))⟩,
   ⟨(some 2), none, .x (.zero 40 3 [(.int .i64 0), (.int .i64 0), .nilslice])⟩])
 (.seq (.reg [
   ⟨(some 3), none, .x (.zero 40 3 [(.int .i64 0), (.int .i64 0), .nilslice])⟩])
 (.seq (.reg [
   ⟨(some 4), none, .f (.fadr 0 (.t 1))⟩,
   ⟨(some 5), none, .f (.ld (.t 4))⟩,
   ⟨(some 6), none, .f (.fadr 0 (.t 3))⟩,
   ⟨none, none, .x (.st 1 (.t 6) (.t 5))⟩])
 (.seq (.reg [
   ⟨(some 7), none, .f (.fadr 1 (.t 1))⟩,
   ⟨(some 8), none, .f (.ld (.t 7))⟩,
   ⟨(some 9), none, .f (.fadr 1 (.t 3))⟩,
   ⟨none, none, .x (.st 1 (.t 9) (.t 8))⟩])
 (.seq (.reg [
   ⟨(some 10), none, .f (.fadr 2 (.t 1))⟩,
   ⟨(some 11), none, .f (.ld (.t 10))⟩,
   ⟨(some 12), none, .x (.call 68 [(.t 11)])⟩,
   ⟨(some 13), none, .f (.fadr 2 (.t 3))⟩,
   ⟨none, none, .x (.st 1 (.t 13) (.t 12))⟩])
 (.seq (.reg [
   ⟨(some 14), none, .f (.ldA 3 (.t 3))⟩,
   ⟨none, none, .x (.st 3 (.t 2) (.t 14))⟩])
 .ret))))))
theorem ok26 : fnComp Try.prog 26 = some (15, c26, [(.ldA 3 (.t 2))]) := by kernel_rfl

/-- loop.example/g00003/laws.toPieceS -/
def c68 : CC :=
 (.seq (.reg [
   ⟨(some 2), none, .f (.mv (.c .nilslice))⟩])
 (.seq (.reg [
   ⟨(some 5), none, .f (.mv (.t 0))⟩,
   ⟨(some 6), none, .f (.len (.t 5))⟩,
   ⟨(some 7), none, .x (.mks 113 6 40 [(.int .i64 0), (.int .i64 0), (.int .i64 0), (.int .i64 0), (.bool false), (.bool false)] (.t 6) (.t 6))⟩,
   ⟨(some 3), none, .f (.mv (.t 7))⟩])
 (.seq (.seq (.reg [
   ⟨(some 4), none, .f (.mv (.c (.int .i64 0)))⟩])
 (.block 0 (.loop (.seq (.seq (.reg [
     ⟨(some 8), none, .f (.mv (.t 4))⟩,
     ⟨(some 9), none, .f (.mv (.t 0))⟩,
     ⟨(some 10), none, .f (.len (.t 9))⟩,
     ⟨(some 11), none, .f (.bin .lss (.t 8) (.t 10))⟩])
   (.cond (.t 11)
    .skip
    (.exit 0)))
   (.seq (.block 1 (.reg [
      ⟨(some 14), none, .f (.mv (.t 3))⟩,
      ⟨(some 15), none, .f (.mv (.t 4))⟩,
      ⟨(some 16), none, .f (.mv (.t 0))⟩,
      ⟨(some 17), none, .f (.mv (.t 4))⟩,
      ⟨(some 18), none, .f (.iadr 6 (.t 16) (.t 17))⟩,
      ⟨(some 19), none, .f (.ldA 6 (.t 18))⟩,
      ⟨(some 20), none, .x (.call 96 [(.t 19)])⟩,
      ⟨(some 21), none, .f (.iadr 6 (.t 14) (.t 15))⟩,
      ⟨none, none, .x (.st 6 (.t 21) (.t 20))⟩]))
   (.reg [
     ⟨(some 12), none, .f (.mv (.t 4))⟩,
     ⟨(some 13), none, .f (.bin .add (.t 12) (.c (.int .i64 1)))⟩,
     ⟨(some 4), none, .f (.mv (.t 13))⟩]))))))
 (.seq (.reg [
   ⟨(some 22), none, .f (.mv (.t 3))⟩,
   ⟨(some 2), none, .f (.mv (.t 22))⟩])
 .ret))))
theorem ok68 : fnComp Try.prog 68 = some (23, c68, [(.mv (.t 2))]) := by kernel_rfl

/-- loop.example/g00003/laws.toPiece -/
def c96 : CC :=
 (.seq (.reg [
   ⟨(some 1), none, .x (.box 145 6 (.t 0))⟩,
   ⟨(some 2), none, .x (.zero 113 6 [(.int .i64 0), (.int .i64 0), (.int .i64 0), (.int .i64 0), (.bool false), (.bool false)])⟩])
 (.seq (.reg [
   ⟨(some 3), none, .x (.zero 113 6 [(.int .i64 0), (.int .i64 0), (.int .i64 0), (.int .i64 0), (.bool false), (.bool false)])⟩])
 (.seq (.reg [
   ⟨(some 4), none, .f (.fadr 0 (.t 1))⟩,
   ⟨(some 5), none, .f (.ld (.t 4))⟩,
   ⟨(some 6), none, .f (.fadr 0 (.t 3))⟩,
   ⟨none, none, .x (.st 1 (.t 6) (.t 5))⟩])
 (.seq (.reg [
   ⟨(some 7), none, .f (.fadr 1 (.t 1))⟩,
   ⟨(some 8), none, .f (.ld (.t 7))⟩,
   ⟨(some 9), none, .f (.fadr 1 (.t 3))⟩,
   ⟨none, none, .x (.st 1 (.t 9) (.t 8))⟩])
 (.seq (.reg [
   ⟨(some 10), none, .f (.fadr 2 (.t 1))⟩,
   ⟨(some 11), none, .f (.ld (.t 10))⟩,
   ⟨(some 12), none, .f (.fadr 2 (.t 3))⟩,
   ⟨none, none, .x (.st 1 (.t 12) (.t 11))⟩])
 (.seq (.reg [
   ⟨(some 13), none, .f (.fadr 3 (.t 1))⟩,
   ⟨(some 14), none, .f (.ld (.t 13))⟩,
   ⟨(some 15), none, .f (.fadr 3 (.t 3))⟩,
   ⟨none, none, .x (.st 1 (.t 15) (.t 14))⟩])
 (.seq (.reg [
   ⟨(some 16), none, .f (.fadr 4 (.t 1))⟩,
   ⟨(some 17), none, .f (.ld (.t 16))⟩,
   ⟨(some 18), none, .f (.fadr 4 (.t 3))⟩,
   ⟨none, none, .x (.st 1 (.t 18) (.t 17))⟩])
 (.seq (.reg [
   ⟨(some 19), none, .f (.fadr 5 (.t 1))⟩,
   ⟨(some 20), none, .f (.ld (.t 19))⟩,
   ⟨(some 21), none, .f (.fadr 5 (.t 3))⟩,
   ⟨none, none, .x (.st 1 (.t 21) (.t 20))⟩])
 (.seq (.reg [
   ⟨(some 22), none, .f (.ldA 6 (.t 3))⟩,
   ⟨none, none, .x (.st 6 (.t 2) (.t 22))⟩])
 .ret)))))))))
theorem ok96 : fnComp Try.prog 96 = some (23, c96, [(.ldA 6 (.t 2))]) := by kernel_rfl

/-- loop.example/g00003/laws.szBoard -/
def c24 : CC :=
 (.seq (.reg [
   ⟨(some 2), none, .x (.box 35 3 (.t 0))⟩,
   ⟨(some 4), none, .f (.mv (.c (.int .i64 0)))⟩])
 (.seq (.reg [
   ⟨(some 5), none, .f (.fadr 2 (.t 2))⟩,
   ⟨(some 6), none, .f (.ld (.t 5))⟩,
   ⟨(some 7), none, .f (.mv (.t 1))⟩,
   ⟨(some 8), none, .x (.call 66 [(.t 6), (.t 7)])⟩,
   ⟨(some 1), none, .f (.mv (.t 8))⟩])
 (.seq (.seq (.reg [
   ⟨(some 9), none, .f (.mv (.t 1))⟩,
   ⟨(some 10), none, .f (.bin .lss (.t 9) (.c (.int .i64 0)))⟩])
 (.cond (.t 10)
  (.seq (.reg [
    ⟨(some 4), none, .f (.mv (.c (.int .i64 (-1))))⟩])
  .ret)
  .skip))
 (.seq (.reg [
   ⟨(some 11), none, .f (.mv (.t 1))⟩,
   ⟨(some 4), none, .f (.mv (.t 11))⟩])
 .ret))))
theorem ok24 : fnComp Try.prog 24 = some (12, c24, [(.mv (.t 4))]) := by kernel_rfl

/-- loop.example/g00003/laws.szPieceS -/
def c66 : CC :=
 (.seq (.reg [
   ⟨(some 4), none, .f (.mv (.c (.int .i64 0)))⟩])
 (.seq (.reg [
   ⟨(some 5), none, .f (.mv (.t 1))⟩,
   ⟨(some 6), none, .f (.mv (.t 0))⟩,
   ⟨(some 7), none, .f (.len (.t 6))⟩,
   ⟨(some 8), none, .f (.bin .sub (.t 5) (.t 7))⟩,
   ⟨(some 1), none, .f (.mv (.t 8))⟩])
 (.seq (.seq (.reg [
   ⟨(some 9), none, .f (.mv (.t 1))⟩,
   ⟨(some 10), none, .f (.bin .lss (.t 9) (.c (.int .i64 0)))⟩])
 (.cond (.t 10)
  (.seq (.reg [
    ⟨(some 4), none, .f (.mv (.c (.int .i64 (-1))))⟩])
  .ret)
  .skip))
 (.seq (.reg [
   ⟨(some 11), none, .f (.mv (.t 1))⟩,
   ⟨(some 4), none, .f (.mv (.t 11))⟩])
 .ret))))
theorem ok66 : fnComp Try.prog 66 = some (12, c66, [(.mv (.t 4))]) := by kernel_rfl

/-- loop.example/g00003/impl.ownBoard -/
def c73 : CC :=
 (.seq (.reg [
   ⟨(some 1), none, .x (.box 40 3 (.t 0))⟩,
   ⟨(some 2), none, .x (.zero 40 3 [(.int .i64 0), (.int .i64 0), .nilslice])⟩])
 (.seq (.reg [
   ⟨(some 3), none, .f (.fadr 2 (.t 1))⟩,
   ⟨(some 4), none, .f (.ld (.t 3))⟩,
   ⟨(some 5), none, .x (.call 98 [(.t 4)])⟩,
   ⟨(some 6), none, .f (.fadr 2 (.t 1))⟩,
   ⟨none, none, .x (.st 1 (.t 6) (.t 5))⟩])
 (.seq (.reg [
   ⟨(some 7), none, .f (.ldA 3 (.t 1))⟩,
   ⟨none, none, .x (.st 3 (.t 2) (.t 7))⟩])
 .ret)))
theorem ok73 : fnComp Try.prog 73 = some (8, c73, [(.ldA 3 (.t 2))]) := by kernel_rfl

end Go.Proofs.Ytecljenjlncfhaa
