import Derived.Test.YtcmcfmgabafljaaK2
import Derived.Test.YtcmcfmgabafljaaProg
import Derived.KernelRfl
set_option linter.unusedSimpArgs false
set_option linter.unusedVariables false
namespace Go.Proofs.Ytcmcfmgabafljaa
open Go Go.IW
/-- loop.example/g00003/laws.FnExactHostOK -/
def c3 : CC :=
 (.seq (.reg [
   ⟨(some 1), none, .x (.box 26 6 (.t 0))⟩,
   ⟨(some 2), none, .f (.mv (.c (.bool false)))⟩])
 (.seq (.reg [
   ⟨(some 3), none, .f (.mv (.c (.int .i64 1048576)))⟩])
 (.seq (.reg [
   ⟨(some 7), none, .f (.ldA 6 (.t 1))⟩,
   ⟨(some 8), none, .f (.mv (.t 3))⟩,
   ⟨(some 9), none, .x (.call 6 [(.t 7), (.t 8)])⟩,
   ⟨(some 3), none, .f (.mv (.t 9))⟩])
 (.seq (.seq (.reg [
   ⟨(some 10), none, .f (.mv (.t 3))⟩,
   ⟨(some 11), none, .f (.bin .lss (.t 10) (.c (.int .i64 0)))⟩])
 (.cond (.t 11)
  (.seq (.reg [
    ⟨(some 2), none, .f (.mv (.c (.bool true)))⟩])
  .ret)
  .skip))
 (.seq (.reg [
   ⟨(some 12), none, .f (.ldA 6 (.t 1))⟩,
   ⟨(some 13), none, .x (.call 8 [(.t 12)])⟩,
   ⟨(some 14), none, .x (.call 7 [(.t 13)])⟩,
   ⟨(some 4), none, .f (.mv (.t 14))⟩])
 (.seq (.reg [
   ⟨(some 15), none, .f (.ldA 6 (.t 1))⟩,
   ⟨(some 16), none, .x (.call 8 [(.t 15)])⟩,
   ⟨(some 5), none, .x (.zero 33 6 [.nilslice, .nilslice, .nilslice, (.bool false), (.bool false), (.int .i64 0)])⟩,
   ⟨none, none, .x (.st 6 (.t 5) (.t 16))⟩])
 (.seq (.reg [
   ⟨(some 17), none, .f (.ldA 6 (.t 5))⟩,
   ⟨(some 18), none, .x (.call 9 [(.t 17)])⟩,
   ⟨(some 6), none, .f (.mv (.t 18))⟩])
 (.seq (.seq (.reg [
   ⟨(some 19), none, .f (.mv (.t 6))⟩,
   ⟨(some 20), none, .f (.mv (.t 4))⟩,
   ⟨(some 21), none, .f (.binB true (.t 19) (.t 20))⟩])
 (.cond (.t 21)
  (.seq (.reg [
    ⟨(some 2), none, .f (.mv (.c (.bool false)))⟩])
  .ret)
  .skip))
 (.seq (.seq (.dreg [
   ⟨(some 22), none, .f (.ldA 6 (.t 5))⟩,
   ⟨(some 23), none, .f (.ldA 6 (.t 1))⟩,
   ⟨(some 24), none, .x (.call 8 [(.t 23)])⟩,
   ⟨(some 25), none, .x (.call 10 [(.t 22), (.t 24)])⟩,
   ⟨(some 26), none, .f (.un .not (.t 25))⟩]
   [false, false, true, true, false] [[], [], [1], [0, 2, 1], [3, 0, 2, 1]] [0, 1, 2, 3, 4])
 (.cond (.t 26)
  (.seq (.reg [
    ⟨(some 2), none, .f (.mv (.c (.bool false)))⟩])
  .ret)
  .skip))
 (.seq (.reg [
   ⟨(some 2), none, .f (.mv (.c (.bool true)))⟩])
 .ret))))))))))
theorem ok3 : fnComp Try.prog 3 = some (27, c3, [(.mv (.t 2))]) := by kernel_rfl

/-- loop.example/g00003/laws.szHostConfig -/
def c6 : CC :=
 (.seq (.reg [
   ⟨(some 2), none, .x (.box 26 6 (.t 0))⟩,
   ⟨(some 4), none, .f (.mv (.c (.int .i64 0)))⟩])
 (.seq (.reg [
   ⟨(some 5), none, .f (.fadr 0 (.t 2))⟩,
   ⟨(some 6), none, .f (.ld (.t 5))⟩,
   ⟨(some 7), none, .f (.mv (.t 1))⟩,
   ⟨(some 8), none, .x (.call 26 [(.t 6), (.t 7)])⟩,
   ⟨(some 1), none, .f (.mv (.t 8))⟩])
 (.seq (.seq (.reg [
   ⟨(some 9), none, .f (.mv (.t 1))⟩,
   ⟨(some 10), none, .f (.bin .lss (.t 9) (.c (.int .i64 0)))⟩])
 (.cond (.t 10)
  (.seq (.reg [
    ⟨(some 4), none, .f (.mv (.c (.int .i64 (-1))))⟩])
  .ret)
  .skip))
 (.seq (.reg [
   ⟨(some 11), none, .f (.fadr 1 (.t 2))⟩,
   ⟨(some 12), none, .f (.ld (.t 11))⟩,
   ⟨(some 13), none, .f (.mv (.t 1))⟩,
   ⟨(some 14), none, .x (.call 27 [(.t 12), (.t 13)])⟩,
   ⟨(some 1), none, .f (.mv (.t 14))⟩])
 (.seq (.seq (.reg [
   ⟨(some 15), none, .f (.mv (.t 1))⟩,
   ⟨(some 16), none, .f (.bin .lss (.t 15) (.c (.int .i64 0)))⟩])
 (.cond (.t 16)
  (.seq (.reg [
    ⟨(some 4), none, .f (.mv (.c (.int .i64 (-1))))⟩])
  .ret)
  .skip))
 (.seq (.reg [
   ⟨(some 17), none, .f (.fadr 2 (.t 2))⟩,
   ⟨(some 18), none, .f (.ld (.t 17))⟩,
   ⟨(some 19), none, .f (.mv (.t 1))⟩,
   ⟨(some 20), none, .x (.call 28 [(.t 18), (.t 19)])⟩,
   ⟨(some 1), none, .f (.mv (.t 20))⟩])
 (.seq (.seq (.reg [
   ⟨(some 21), none, .f (.mv (.t 1))⟩,
   ⟨(some 22), none, .f (.bin .lss (.t 21) (.c (.int .i64 0)))⟩])
 (.cond (.t 22)
  (.seq (.reg [
    ⟨(some 4), none, .f (.mv (.c (.int .i64 (-1))))⟩])
  .ret)
  .skip))
 (.seq (.reg [
   ⟨(some 23), none, .f (.mv (.t 1))⟩,
   ⟨(some 4), none, .f (.mv (.t 23))⟩])
 .ret))))))))
theorem ok6 : fnComp Try.prog 6 = some (24, c6, [(.mv (.t 4))]) := by kernel_rfl

/-- loop.example/g00003/laws.toHostConfig -/
def c8 : CC :=
 (.seq (.reg [
   ⟨(some 1), none, .x (.box 26 6 (.t 0))⟩,
   ⟨(some 2), none, .x (.zero 33 6 [.nilslice, .nilslice, .nilslice, (.bool false), (.bool false), (.int .i64 0)])⟩])
 (.seq (.reg [
   ⟨(some 3), none, .x (.zero 33 6 [.nilslice, .nilslice, .nilslice, (.bool false), (.bool false), (.int .i64 0)])⟩])
 (.seq (.reg [
   ⟨(some 4), none, .f (.fadr 0 (.t 1))⟩,
   ⟨(some 5), none, .f (.ld (.t 4))⟩,
   ⟨(some 6), none, .x (.call 34 [(.t 5)])⟩,
   ⟨(some 7), none, .f (.fadr 0 (.t 3))⟩,
   ⟨none, none, .x (.st 1 (.t 7) (.t 6))⟩])
 (.seq (.reg [
   ⟨(some 8), none, .f (.fadr 1 (.t 1))⟩,
   ⟨(some 9), none, .f (.ld (.t 8))⟩,
   ⟨(some 10), none, .x (.call 35 [(.t 9)])⟩,
   ⟨(some 11), none, .f (.fadr 1 (.t 3))⟩,
   ⟨none, none, .x (.st 1 (.t 11) (.t 10))⟩])
 (.seq (.reg [
   ⟨(some 12), none, .f (.fadr 2 (.t 1))⟩,
   ⟨(some 13), none, .f (.ld (.t 12))⟩,
   ⟨(some 14), none, .x (.call 36 [(.t 13)])⟩,
   ⟨(some 15), none, .f (.fadr 2 (.t 3))⟩,
   ⟨none, none, .x (.st 1 (.t 15) (.t 14))⟩])
 (.seq (.reg [
   ⟨(some 16), none, .f (.fadr 3 (.t 1))⟩,
   ⟨(some 17), none, .f (.ld (.t 16))⟩,
   ⟨(some 18), none, .f (.fadr 3 (.t 3))⟩,
   ⟨none, none, .x (.st 1 (.t 18) (.t 17))⟩])
 (.seq (.reg [
   ⟨(some 19), none, .f (.fadr 4 (.t 1))⟩,
   ⟨(some 20), none, .f (.ld (.t 19))⟩,
   ⟨(some 21), none, .f (.fadr 4 (.t 3))⟩,
   ⟨none, none, .x (.st 1 (.t 21) (.t 20))⟩])
 (.seq (.reg [
   ⟨(some 22), none, .f (.fadr 5 (.t 1))⟩,
   ⟨(some 23), none, .f (.ld (.t 22))⟩,
   ⟨(some 24), none, .f (.fadr 5 (.t 3))⟩,
   ⟨none, none, .x (.st 1 (.t 24) (.t 23))⟩])
 (.seq (.reg [
   ⟨(some 25), none, .f (.ldA 6 (.t 3))⟩,
   ⟨none, none, .x (.st 6 (.t 2) (.t 25))⟩])
 .ret)))))))))
theorem ok8 : fnComp Try.prog 8 = some (26, c8, [(.ldA 6 (.t 2))]) := by kernel_rfl

/-- loop.example/g00003/laws.eqHostConfig -/
def c10 : CC :=
 (.seq (.reg [
   ⟨(some 2), none, .x (.box 33 6 (.t 0))⟩,
   ⟨(some 3), none, .x (.box 33 6 (.t 1))⟩,
   ⟨(some 4), none, .f (.mv (.c (.bool false)))⟩])
 (.seq (.seq (.reg [
   ⟨(some 5), none, .f (.fadr 0 (.t 2))⟩,
   ⟨(some 6), none, .f (.ld (.t 5))⟩,
   ⟨(some 7), none, .f (.fadr 0 (.t 3))⟩,
   ⟨(some 8), none, .f (.ld (.t 7))⟩,
   ⟨(some 9), none, .x (.call 45 [(.t 6), (.t 8)])⟩,
   ⟨(some 10), none, .f (.un .not (.t 9))⟩])
 (.cond (.t 10)
  (.seq (.reg [
    ⟨(some 4), none, .f (.mv (.c (.bool false)))⟩])
  .ret)
  .skip))
 (.seq (.seq (.reg [
   ⟨(some 11), none, .f (.fadr 1 (.t 2))⟩,
   ⟨(some 12), none, .f (.ld (.t 11))⟩,
   ⟨(some 13), none, .f (.fadr 1 (.t 3))⟩,
   ⟨(some 14), none, .f (.ld (.t 13))⟩,
   ⟨(some 15), none, .x (.call 46 [(.t 12), (.t 14)])⟩,
   ⟨(some 16), none, .f (.un .not (.t 15))⟩])
 (.cond (.t 16)
  (.seq (.reg [
    ⟨(some 4), none, .f (.mv (.c (.bool false)))⟩])
  .ret)
  .skip))
 (.seq (.seq (.reg [
   ⟨(some 17), none, .f (.fadr 2 (.t 2))⟩,
   ⟨(some 18), none, .f (.ld (.t 17))⟩,
   ⟨(some 19), none, .f (.fadr 2 (.t 3))⟩,
   ⟨(some 20), none, .f (.ld (.t 19))⟩,
   ⟨(some 21), none, .x (.call 47 [(.t 18), (.t 20)])⟩,
   ⟨(some 22), none, .f (.un .not (.t 21))⟩])
 (.cond (.t 22)
  (.seq (.reg [
    ⟨(some 4), none, .f (.mv (.c (.bool false)))⟩])
  .ret)
  .skip))
 (.seq (.seq (.reg [
   ⟨(some 23), none, .f (.fadr 3 (.t 2))⟩,
   ⟨(some 24), none, .f (.ld (.t 23))⟩,
   ⟨(some 25), none, .f (.fadr 3 (.t 3))⟩,
   ⟨(some 26), none, .f (.ld (.t 25))⟩,
   ⟨(some 27), none, .f (.binB true (.t 24) (.t 26))⟩])
 (.cond (.t 27)
  (.seq (.reg [
    ⟨(some 4), none, .f (.mv (.c (.bool false)))⟩])
  .ret)
  .skip))
 (.seq (.seq (.reg [
   ⟨(some 28), none, .f (.fadr 4 (.t 2))⟩,
   ⟨(some 29), none, .f (.ld (.t 28))⟩,
   ⟨(some 30), none, .f (.fadr 4 (.t 3))⟩,
   ⟨(some 31), none, .f (.ld (.t 30))⟩,
   ⟨(some 32), none, .f (.binB true (.t 29) (.t 31))⟩])
 (.cond (.t 32)
  (.seq (.reg [
    ⟨(some 4), none, .f (.mv (.c (.bool false)))⟩])
  .ret)
  .skip))
 (.seq (.seq (.reg [
   ⟨(some 33), none, .f (.fadr 5 (.t 2))⟩,
   ⟨(some 34), none, .f (.ld (.t 33))⟩,
   ⟨(some 35), none, .f (.fadr 5 (.t 3))⟩,
   ⟨(some 36), none, .f (.ld (.t 35))⟩,
   ⟨(some 37), none, .f (.bin .neq (.t 34) (.t 36))⟩])
 (.cond (.t 37)
  (.seq (.reg [
    ⟨(some 4), none, .f (.mv (.c (.bool false)))⟩])
  .ret)
  .skip))
 (.seq (.reg [
   ⟨(some 4), none, .f (.mv (.c (.bool true)))⟩])
 .ret))))))))
theorem ok10 : fnComp Try.prog 10 = some (38, c10, [(.mv (.t 4))]) := by kernel_rfl

/-- loop.example/g00003/laws.szHostLinkS -/
def c26 : CC :=
 (.seq (.reg [
   ⟨(some 4), none, .f (.mv (.c (.int .i64 0)))⟩])
 (.seq (.reg [
   ⟨(some 5), none, .f (.mv (.t 1))⟩,
   ⟨(some 6), none, .f (.mv (.t 0))⟩,
   ⟨(some 7), none, .f (.len (.t 6))⟩,
   ⟨(some 8), none, .f (.bin .sub (.t 5) (.t 7))⟩,
   ⟨(some 1), none, .f (.mv (.t 8))⟩])
 (.seq (.seq (.reg [
   ⟨(some 9), none, .f (.mv (.t 1))⟩,
   ⟨(some 10), none, .f (.bin .lss (.t 9) (.c (.int .i64 0)))⟩])
 (.cond (.t 10)
  (.seq (.reg [
    ⟨(some 4), none, .f (.mv (.c (.int .i64 (-1))))⟩])
  .ret)
  .skip))
 (.seq (.reg [
   ⟨(some 11), none, .f (.mv (.t 1))⟩,
   ⟨(some 4), none, .f (.mv (.t 11))⟩])
 .ret))))
theorem ok26 : fnComp Try.prog 26 = some (12, c26, [(.mv (.t 4))]) := by kernel_rfl

/-- loop.example/g00003/laws.szRouteS -/
def c27 : CC :=
 (.seq (.reg [
   ⟨(some 4), none, .f (.mv (.c (.int .i64 0)))⟩])
 (.seq (.reg [
   ⟨(some 5), none, .f (.mv (.t 1))⟩,
   ⟨(some 6), none, .f (.mv (.t 0))⟩,
   ⟨(some 7), none, .f (.len (.t 6))⟩,
   ⟨(some 8), none, .f (.bin .sub (.t 5) (.t 7))⟩,
   ⟨(some 1), none, .f (.mv (.t 8))⟩])
 (.seq (.seq (.reg [
   ⟨(some 9), none, .f (.mv (.t 1))⟩,
   ⟨(some 10), none, .f (.bin .lss (.t 9) (.c (.int .i64 0)))⟩])
 (.cond (.t 10)
  (.seq (.reg [
    ⟨(some 4), none, .f (.mv (.c (.int .i64 (-1))))⟩])
  .ret)
  .skip))
 (.seq (.reg [
   ⟨(some 11), none, .f (.mv (.t 1))⟩,
   ⟨(some 4), none, .f (.mv (.t 11))⟩])
 .ret))))
theorem ok27 : fnComp Try.prog 27 = some (12, c27, [(.mv (.t 4))]) := by kernel_rfl

/-- loop.example/g00003/laws.szRuleS -/
def c28 : CC :=
 (.seq (.reg [
   ⟨(some 4), none, .f (.mv (.c (.int .i64 0)))⟩])
 (.seq (.reg [
   ⟨(some 5), none, .f (.mv (.t 1))⟩,
   ⟨(some 6), none, .f (.mv (.t 0))⟩,
   ⟨(some 7), none, .f (.len (.t 6))⟩,
   ⟨(some 8), none, .f (.bin .sub (.t 5) (.t 7))⟩,
   ⟨(some 1), none, .f (.mv (.t 8))⟩])
 (.seq (.seq (.reg [
   ⟨(some 9), none, .f (.mv (.t 1))⟩,
   ⟨(some 10), none, .f (.bin .lss (.t 9) (.c (.int .i64 0)))⟩])
 (.cond (.t 10)
  (.seq (.reg [
    ⟨(some 4), none, .f (.mv (.c (.int .i64 (-1))))⟩])
  .ret)
  .skip))
 (.seq (.reg [
   ⟨(some 11), none, .f (.mv (.t 1))⟩,
   ⟨(some 4), none, .f (.mv (.t 11))⟩])
 .ret))))
theorem ok28 : fnComp Try.prog 28 = some (12, c28, [(.mv (.t 4))]) := by kernel_rfl

/-- loop.example/g00003/laws.toHostLinkS -/
def c34 : CC :=
 (.seq (.reg [
   ⟨(some 2), none, .f (.mv (.c .nilslice))⟩])
 (.seq (.reg [
   ⟨(some 5), none, .f (.mv (.t 0))⟩,
   ⟨(some 6), none, .f (.len (.t 5))⟩,
   ⟨(some 7), none, .x (.mks 73 5 40 [(.int .i64 0), (.int .i64 0), (.int .i64 0), (.int .i64 0), (.int .i64 0)] (.t 6) (.t 6))⟩,
   ⟨(some 3), none, .f (.mv (.t 7))⟩])
 (.seq (.seq (.reg [
   ⟨(some 4), none, .f (.mv (.c (.int .i64 0)))⟩])
 (.block 0 (.loop (.seq (.seq (.reg [
     ⟨(some 8), none, .f (.mv (.t 4))⟩,
     ⟨(some 9), none, .f (.mv (.t 0))⟩,
     ⟨(some 10), none, .f (.len (.t 9))⟩,
     ⟨(some 11), none, .f (.bin .lss (.t 8) (.t 10))⟩])
   (.cond (.t 11)
    .skip
    (.exit 0)))
   (.seq (.block 1 (.reg [
      ⟨(some 14), none, .f (.mv (.t 3))⟩,
      ⟨(some 15), none, .f (.mv (.t 4))⟩,
      ⟨(some 16), none, .f (.mv (.t 0))⟩,
      ⟨(some 17), none, .f (.mv (.t 4))⟩,
      ⟨(some 18), none, .f (.iadr 5 (.t 16) (.t 17))⟩,
      ⟨(some 19), none, .f (.ldA 5 (.t 18))⟩,
      ⟨(some 20), none, .x (.call 87 [(.t 19)])⟩,
      ⟨(some 21), none, .f (.iadr 5 (.t 14) (.t 15))⟩,
      ⟨none, none, .x (.st 5 (.t 21) (.t 20))⟩]))
   (.reg [
     ⟨(some 12), none, .f (.mv (.t 4))⟩,
     ⟨(some 13), none, .f (.bin .add (.t 12) (.c (.int .i64 1)))⟩,
     ⟨(some 4), none, .f (.mv (.t 13))⟩]))))))
 (.seq (.reg [
   ⟨(some 22), none, .f (.mv (.t 3))⟩,
   ⟨(some 2), none, .f (.mv (.t 22))⟩])
 .ret))))
theorem ok34 : fnComp Try.prog 34 = some (23, c34, [(.mv (.t 2))]) := by kernel_rfl

/-- loop.example/g00003/laws.toRouteS -/
def c35 : CC :=
 (.seq (.reg [
   ⟨(some 2), none, .f (.mv (.c .nilslice))⟩])
 (.seq (.reg [
   ⟨(some 5), none, .f (.mv (.t 0))⟩,
   ⟨(some 6), none, .f (.len (.t 5))⟩,
   ⟨(some 7), none, .x (.mks 75 5 40 [(.int .i64 0), (.int .i64 0), (.int .i64 0), (.int .i64 0), (.int .i64 0)] (.t 6) (.t 6))⟩,
   ⟨(some 3), none, .f (.mv (.t 7))⟩])
 (.seq (.seq (.reg [
   ⟨(some 4), none, .f (.mv (.c (.int .i64 0)))⟩])
 (.block 0 (.loop (.seq (.seq (.reg [
     ⟨(some 8), none, .f (.mv (.t 4))⟩,
     ⟨(some 9), none, .f (.mv (.t 0))⟩,
     ⟨(some 10), none, .f (.len (.t 9))⟩,
     ⟨(some 11), none, .f (.bin .lss (.t 8) (.t 10))⟩])
   (.cond (.t 11)
    .skip
    (.exit 0)))
   (.seq (.block 1 (.reg [
      ⟨(some 14), none, .f (.mv (.t 3))⟩,
      ⟨(some 15), none, .f (.mv (.t 4))⟩,
      ⟨(some 16), none, .f (.mv (.t 0))⟩,
      ⟨(some 17), none, .f (.mv (.t 4))⟩,
      ⟨(some 18), none, .f (.iadr 5 (.t 16) (.t 17))⟩,
      ⟨(some 19), none, .f (.ldA 5 (.t 18))⟩,
      ⟨(some 20), none, .x (.call 88 [(.t 19)])⟩,
      ⟨(some 21), none, .f (.iadr 5 (.t 14) (.t 15))⟩,
      ⟨none, none, .x (.st 5 (.t 21) (.t 20))⟩]))
   (.reg [
     ⟨(some 12), none, .f (.mv (.t 4))⟩,
     ⟨(some 13), none, .f (.bin .add (.t 12) (.c (.int .i64 1)))⟩,
     ⟨(some 4), none, .f (.mv (.t 13))⟩]))))))
 (.seq (.reg [
   ⟨(some 22), none, .f (.mv (.t 3))⟩,
   ⟨(some 2), none, .f (.mv (.t 22))⟩])
 .ret))))
theorem ok35 : fnComp Try.prog 35 = some (23, c35, [(.mv (.t 2))]) := by kernel_rfl

/-- loop.example/g00003/laws.toRuleS -/
def c36 : CC :=
 (.seq (.reg [
   ⟨(some 2), none, .f (.mv (.c .nilslice))⟩])
 (.seq (.reg [
   ⟨(some 5), none, .f (.mv (.t 0))⟩,
   ⟨(some 6), none, .f (.len (.t 5))⟩,
   ⟨(some 7), none, .x (.mks 80 12 96 [(.int .i64 0), (.int .i64 0), (.int .i64 0), (.int .i64 0), (.int .i64 0), (.int .i64 0), (.int .i64 0), (.int .i64 0), (.int .i64 0), (.int .i64 0), (.int .i64 0), (.int .i64 0)] (.t 6) (.t 6))⟩,
   ⟨(some 3), none, .f (.mv (.t 7))⟩])
 (.seq (.seq (.reg [
   ⟨(some 4), none, .f (.mv (.c (.int .i64 0)))⟩])
 (.block 0 (.loop (.seq (.seq (.reg [
     ⟨(some 8), none, .f (.mv (.t 4))⟩,
     ⟨(some 9), none, .f (.mv (.t 0))⟩,
     ⟨(some 10), none, .f (.len (.t 9))⟩,
     ⟨(some 11), none, .f (.bin .lss (.t 8) (.t 10))⟩])
   (.cond (.t 11)
    .skip
    (.exit 0)))
   (.seq (.block 1 (.reg [
      ⟨(some 14), none, .f (.mv (.t 3))⟩,
      ⟨(some 15), none, .f (.mv (.t 4))⟩,
      ⟨(some 16), none, .f (.mv (.t 0))⟩,
      ⟨(some 17), none, .f (.mv (.t 4))⟩,
      ⟨(some 18), none, .f (.iadr 12 (.t 16) (.t 17))⟩,
      ⟨(some 19), none, .f (.ldA 12 (.t 18))⟩,
      ⟨(some 20), none, .x (.call 89 [(.t 19)])⟩,
      ⟨(some 21), none, .f (.iadr 12 (.t 14) (.t 15))⟩,
      ⟨none, none, .x (.st 12 (.t 21) (.t 20))⟩]))
   (.reg [
     ⟨(some 12), none, .f (.mv (.t 4))⟩,
     ⟨(some 13), none, .f (.bin .add (.t 12) (.c (.int .i64 1)))⟩,
     ⟨(some 4), none, .f (.mv (.t 13))⟩]))))))
 (.seq (.reg [
   ⟨(some 22), none, .f (.mv (.t 3))⟩,
   ⟨(some 2), none, .f (.mv (.t 22))⟩])
 .ret))))
theorem ok36 : fnComp Try.prog 36 = some (23, c36, [(.mv (.t 2))]) := by kernel_rfl

/-- loop.example/g00003/laws.eqHostLinkS -/
def c45 : CC :=
 (.seq (.reg [
   ⟨(some 4), none, .f (.mv (.c (.bool false)))⟩])
 (.seq (.seq (.reg [
   ⟨(some 6), none, .f (.mv (.t 0))⟩,
   ⟨(some 7), none, .f (.len (.t 6))⟩,
   ⟨(some 8), none, .f (.mv (.t 1))⟩,
   ⟨(some 9), none, .f (.len (.t 8))⟩,
   ⟨(some 10), none, .f (.bin .neq (.t 7) (.t 9))⟩])
 (.cond (.t 10)
  (.seq (.reg [
    ⟨(some 4), none, .f (.mv (.c (.bool false)))⟩])
  .ret)
  .skip))
 (.seq (.seq (.reg [
   ⟨(some 5), none, .f (.mv (.c (.int .i64 0)))⟩])
 (.block 0 (.loop (.seq (.seq (.reg [
     ⟨(some 11), none, .f (.mv (.t 5))⟩,
     ⟨(some 12), none, .f (.mv (.t 0))⟩,
     ⟨(some 13), none, .f (.len (.t 12))⟩,
     ⟨(some 14), none, .f (.bin .lss (.t 11) (.t 13))⟩])
   (.cond (.t 14)
    .skip
    (.exit 0)))
   (.seq (.block 1 (.seq (.dreg [
      ⟨(some 17), none, .f (.mv (.t 0))⟩,
      ⟨(some 18), none, .f (.mv (.t 5))⟩,
      ⟨(some 19), none, .f (.iadr 5 (.t 17) (.t 18))⟩,
      ⟨(some 20), none, .f (.ldA 5 (.t 19))⟩,
      ⟨(some 21), none, .f (.mv (.t 1))⟩,
      ⟨(some 22), none, .f (.mv (.t 5))⟩,
      ⟨(some 23), none, .f (.iadr 5 (.t 21) (.t 22))⟩,
      ⟨(some 24), none, .f (.ldA 5 (.t 23))⟩,
      ⟨(some 25), none, .x (.call 92 [(.t 20), (.t 24)])⟩,
      ⟨(some 26), none, .f (.un .not (.t 25))⟩]
      [false, false, false, false, false, false, false, false, true, false] [[], [], [0, 1], [2, 0, 1], [], [], [4, 5], [6, 4, 5], [3, 2, 0, 1, 7, 6, 4, 5], [8, 3, 2, 0, 1, 7, 6, 4, 5]] [0, 1, 2, 3, 4, 5, 6, 7, 8, 9])
    (.cond (.t 26)
     (.seq (.reg [
       ⟨(some 4), none, .f (.mv (.c (.bool false)))⟩])
     .ret)
     .skip)))
   (.reg [
     ⟨(some 15), none, .f (.mv (.t 5))⟩,
     ⟨(some 16), none, .f (.bin .add (.t 15) (.c (.int .i64 1)))⟩,
     ⟨(some 5), none, .f (.mv (.t 16))⟩]))))))
 (.seq (.reg [
   ⟨(some 4), none, .f (.mv (.c (.bool true)))⟩])
 .ret))))
theorem ok45 : fnComp Try.prog 45 = some (27, c45, [(.mv (.t 4))]) := by kernel_rfl

/-- loop.example/g00003/laws.eqRouteS -/
def c46 : CC :=
 (.seq (.reg [
   ⟨(some 4), none, .f (.mv (.c (.bool false)))⟩])
 (.seq (.seq (.reg [
   ⟨(some 6), none, .f (.mv (.t 0))⟩,
   ⟨(some 7), none, .f (.len (.t 6))⟩,
   ⟨(some 8), none, .f (.mv (.t 1))⟩,
   ⟨(some 9), none, .f (.len (.t 8))⟩,
   ⟨(some 10), none, .f (.bin .neq (.t 7) (.t 9))⟩])
 (.cond (.t 10)
  (.seq (.reg [
    ⟨(some 4), none, .f (.mv (.c (.bool false)))⟩])
  .ret)
  .skip))
 (.seq (.seq (.reg [
   ⟨(some 5), none, .f (.mv (.c (.int .i64 0)))⟩])
 (.block 0 (.loop (.seq (.seq (.reg [
     ⟨(some 11), none, .f (.mv (.t 5))⟩,
     ⟨(some 12), none, .f (.mv (.t 0))⟩,
     ⟨(some 13), none, .f (.len (.t 12))⟩,
     ⟨(some 14), none, .f (.bin .lss (.t 11) (.t 13))⟩])
   (.cond (.t 14)
    .skip
    (.exit 0)))
   (.seq (.block 1 (.seq (.dreg [
      ⟨(some 17), none, .f (.mv (.t 0))⟩,
      ⟨(some 18), none, .f (.mv (.t 5))⟩,
      ⟨(some 19), none, .f (.iadr 5 (.t 17) (.t 18))⟩,
      ⟨(some 20), none, .f (.ldA 5 (.t 19))⟩,
      ⟨(some 21), none, .f (.mv (.t 1))⟩,
      ⟨(some 22), none, .f (.mv (.t 5))⟩,
      ⟨(some 23), none, .f (.iadr 5 (.t 21) (.t 22))⟩,
      ⟨(some 24), none, .f (.ldA 5 (.t 23))⟩,
      ⟨(some 25), none, .x (.call 93 [(.t 20), (.t 24)])⟩,
      ⟨(some 26), none, .f (.un .not (.t 25))⟩]
      [false, false, false, false, false, false, false, false, true, false] [[], [], [0, 1], [2, 0, 1], [], [], [4, 5], [6, 4, 5], [3, 2, 0, 1, 7, 6, 4, 5], [8, 3, 2, 0, 1, 7, 6, 4, 5]] [0, 1, 2, 3, 4, 5, 6, 7, 8, 9])
    (.cond (.t 26)
     (.seq (.reg [
       ⟨(some 4), none, .f (.mv (.c (.bool false)))⟩])
     .ret)
     .skip)))
   (.reg [
     ⟨(some 15), none, .f (.mv (.t 5))⟩,
     ⟨(some 16), none, .f (.bin .add (.t 15) (.c (.int .i64 1)))⟩,
     ⟨(some 5), none, .f (.mv (.t 16))⟩]))))))
 (.seq (.reg [
   ⟨(some 4), none, .f (.mv (.c (.bool true)))⟩])
 .ret))))
theorem ok46 : fnComp Try.prog 46 = some (27, c46, [(.mv (.t 4))]) := by kernel_rfl

/-- loop.example/g00003/laws.eqRuleS -/
def c47 : CC :=
 (.seq (.reg [
   ⟨(some 4), none, .f (.mv (.c (.bool false)))⟩])
 (.seq (.seq (.reg [
   ⟨(some 6), none, .f (.mv (.t 0))⟩,
   ⟨(some 7), none, .f (.len (.t 6))⟩,
   ⟨(some 8), none, .f (.mv (.t 1))⟩,
   ⟨(some 9), none, .f (.len (.t 8))⟩,
   ⟨(some 10), none, .f (.bin .neq (.t 7) (.t 9))⟩])
 (.cond (.t 10)
  (.seq (.reg [
    ⟨(some 4), none, .f (.mv (.c (.bool false)))⟩])
  .ret)
  .skip))
 (.seq (.seq (.reg [
   ⟨(some 5), none, .f (.mv (.c (.int .i64 0)))⟩])
 (.block 0 (.loop (.seq (.seq (.reg [
     ⟨(some 11), none, .f (.mv (.t 5))⟩,
     ⟨(some 12), none, .f (.mv (.t 0))⟩,
     ⟨(some 13), none, .f (.len (.t 12))⟩,
     ⟨(some 14), none, .f (.bin .lss (.t 11) (.t 13))⟩])
   (.cond (.t 14)
    .skip
    (.exit 0)))
   (.seq (.block 1 (.seq (.dreg [
      ⟨(some 17), none, .f (.mv (.t 0))⟩,
      ⟨(some 18), none, .f (.mv (.t 5))⟩,
      ⟨(some 19), none, .f (.iadr 12 (.t 17) (.t 18))⟩,
      ⟨(some 20), none, .f (.ldA 12 (.t 19))⟩,
      ⟨(some 21), none, .f (.mv (.t 1))⟩,
      ⟨(some 22), none, .f (.mv (.t 5))⟩,
      ⟨(some 23), none, .f (.iadr 12 (.t 21) (.t 22))⟩,
      ⟨(some 24), none, .f (.ldA 12 (.t 23))⟩,
      ⟨(some 25), none, .x (.call 94 [(.t 20), (.t 24)])⟩,
      ⟨(some 26), none, .f (.un .not (.t 25))⟩]
      [false, false, false, false, false, false, false, false, true, false] [[], [], [0, 1], [2, 0, 1], [], [], [4, 5], [6, 4, 5], [3, 2, 0, 1, 7, 6, 4, 5], [8, 3, 2, 0, 1, 7, 6, 4, 5]] [0, 1, 2, 3, 4, 5, 6, 7, 8, 9])
    (.cond (.t 26)
     (.seq (.reg [
       ⟨(some 4), none, .f (.mv (.c (.bool false)))⟩])
     .ret)
     .skip)))
   (.reg [
     ⟨(some 15), none, .f (.mv (.t 5))⟩,
     ⟨(some 16), none, .f (.bin .add (.t 15) (.c (.int .i64 1)))⟩,
     ⟨(some 5), none, .f (.mv (.t 16))⟩]))))))
 (.seq (.reg [
   ⟨(some 4), none, .f (.mv (.c (.bool true)))⟩])
 .ret))))
theorem ok47 : fnComp Try.prog 47 = some (27, c47, [(.mv (.t 4))]) := by kernel_rfl

/-- loop.example/g00003/laws.toHostLink -/
def c87 : CC :=
 (.seq (.reg [
   ⟨(some 1), none, .x (.box 141 5 (.t 0))⟩,
   ⟨(some 2), none, .x (.zero 73 5 [(.int .i64 0), (.int .i64 0), (.int .i64 0), (.int .i64 0), (.int .i64 0)])⟩])
 (.seq (.reg [
   ⟨(some 3), none, .x (.zero 73 5 [(.int .i64 0), (.int .i64 0), (.int .i64 0), (.int .i64 0), (.int .i64 0)])⟩])
 (.seq (.reg [
   ⟨(some 4), none, .f (.fadr 0 (.t 1))⟩,
   ⟨(some 5), none, .f (.ld (.t 4))⟩,
   ⟨(some 6), none, .f (.fadr 0 (.t 3))⟩,
   ⟨none, none, .x (.st 1 (.t 6) (.t 5))⟩])
 (.seq (.reg [
   ⟨(some 7), none, .f (.fadr 1 (.t 1))⟩,
   ⟨(some 8), none, .f (.ld (.t 7))⟩,
   ⟨(some 9), none, .f (.fadr 1 (.t 3))⟩,
   ⟨none, none, .x (.st 1 (.t 9) (.t 8))⟩])
 (.seq (.reg [
   ⟨(some 10), none, .f (.fadr 2 (.t 1))⟩,
   ⟨(some 11), none, .f (.ldA 2 (.t 10))⟩,
   ⟨(some 12), none, .x (.call 115 [(.t 11)])⟩,
   ⟨(some 13), none, .f (.fadr 2 (.t 3))⟩,
   ⟨none, none, .x (.st 2 (.t 13) (.t 12))⟩])
 (.seq (.reg [
   ⟨(some 14), none, .f (.fadr 4 (.t 1))⟩,
   ⟨(some 15), none, .f (.ld (.t 14))⟩,
   ⟨(some 16), none, .f (.fadr 4 (.t 3))⟩,
   ⟨none, none, .x (.st 1 (.t 16) (.t 15))⟩])
 (.seq (.reg [
   ⟨(some 17), none, .f (.ldA 5 (.t 3))⟩,
   ⟨none, none, .x (.st 5 (.t 2) (.t 17))⟩])
 .ret)))))))
theorem ok87 : fnComp Try.prog 87 = some (18, c87, [(.ldA 5 (.t 2))]) := by kernel_rfl

/-- loop.example/g00003/laws.toRoute -/
def c88 : CC :=
 (.seq (.reg [
   ⟨(some 1), none, .x (.box 144 5 (.t 0))⟩,
   ⟨(some 2), none, .x (.zero 75 5 [(.int .i64 0), (.int .i64 0), (.int .i64 0), (.int .i64 0), (.int .i64 0)])⟩])
 (.seq (.reg [
   ⟨(some 3), none, .x (.zero 75 5 [(.int .i64 0), (.int .i64 0), (.int .i64 0), (.int .i64 0), (.int .i64 0)])⟩])
 (.seq (.reg [
   ⟨(some 4), none, .f (.fadr 0 (.t 1))⟩,
   ⟨(some 5), none, .f (.ldA 2 (.t 4))⟩,
   ⟨(some 6), none, .x (.call 115 [(.t 5)])⟩,
   ⟨(some 7), none, .f (.fadr 0 (.t 3))⟩,
   ⟨none, none, .x (.st 2 (.t 7) (.t 6))⟩])
 (.seq (.reg [
   ⟨(some 8), none, .f (.fadr 2 (.t 1))⟩,
   ⟨(some 9), none, .f (.ld (.t 8))⟩,
   ⟨(some 10), none, .f (.fadr 2 (.t 3))⟩,
   ⟨none, none, .x (.st 1 (.t 10) (.t 9))⟩])
 (.seq (.reg [
   ⟨(some 11), none, .f (.fadr 3 (.t 1))⟩,
   ⟨(some 12), none, .f (.ld (.t 11))⟩,
   ⟨(some 13), none, .f (.fadr 3 (.t 3))⟩,
   ⟨none, none, .x (.st 1 (.t 13) (.t 12))⟩])
 (.seq (.reg [
   ⟨(some 14), none, .f (.fadr 4 (.t 1))⟩,
   ⟨(some 15), none, .f (.ld (.t 14))⟩,
   ⟨(some 16), none, .f (.fadr 4 (.t 3))⟩,
   ⟨none, none, .x (.st 1 (.t 16) (.t 15))⟩])
 (.seq (.reg [
   ⟨(some 17), none, .f (.ldA 5 (.t 3))⟩,
   ⟨none, none, .x (.st 5 (.t 2) (.t 17))⟩])
 .ret)))))))
theorem ok88 : fnComp Try.prog 88 = some (18, c88, [(.ldA 5 (.t 2))]) := by kernel_rfl

/-- loop.example/g00003/laws.toRule -/
def c89 : CC :=
 (.seq (.reg [
   ⟨(some 1), none, .x (.box 147 12 (.t 0))⟩,
   ⟨(some 2), none, .x (.zero 80 12 [(.int .i64 0), (.int .i64 0), (.int .i64 0), (.int .i64 0), (.int .i64 0), (.int .i64 0), (.int .i64 0), (.int .i64 0), (.int .i64 0), (.int .i64 0), (.int .i64 0), (.int .i64 0)])⟩])
 (.seq (.reg [
   ⟨(some 3), none, .x (.zero 80 12 [(.int .i64 0), (.int .i64 0), (.int .i64 0), (.int .i64 0), (.int .i64 0), (.int .i64 0), (.int .i64 0), (.int .i64 0), (.int .i64 0), (.int .i64 0), (.int .i64 0), (.int .i64 0)])⟩])
 (.seq (.reg [
   ⟨(some 4), none, .f (.fadr 0 (.t 1))⟩,
   ⟨(some 5), none, .f (.ld (.t 4))⟩,
   ⟨(some 6), none, .f (.fadr 0 (.t 3))⟩,
   ⟨none, none, .x (.st 1 (.t 6) (.t 5))⟩])
 (.seq (.reg [
   ⟨(some 7), none, .f (.fadr 1 (.t 1))⟩,
   ⟨(some 8), none, .f (.ld (.t 7))⟩,
   ⟨(some 9), none, .f (.fadr 1 (.t 3))⟩,
   ⟨none, none, .x (.st 1 (.t 9) (.t 8))⟩])
 (.seq (.reg [
   ⟨(some 10), none, .f (.fadr 2 (.t 1))⟩,
   ⟨(some 11), none, .f (.ld (.t 10))⟩,
   ⟨(some 12), none, .f (.fadr 2 (.t 3))⟩,
   ⟨none, none, .x (.st 1 (.t 12) (.t 11))⟩])
 (.seq (.reg [
   ⟨(some 13), none, .f (.fadr 3 (.t 1))⟩,
   ⟨(some 14), none, .f (.ldA 2 (.t 13))⟩,
   ⟨(some 15), none, .x (.call 115 [(.t 14)])⟩,
   ⟨(some 16), none, .f (.fadr 3 (.t 3))⟩,
   ⟨none, none, .x (.st 2 (.t 16) (.t 15))⟩])
 (.seq (.reg [
   ⟨(some 17), none, .f (.fadr 5 (.t 1))⟩,
   ⟨(some 18), none, .f (.ld (.t 17))⟩,
   ⟨(some 19), none, .f (.fadr 5 (.t 3))⟩,
   ⟨none, none, .x (.st 1 (.t 19) (.t 18))⟩])
 (.seq (.reg [
   ⟨(some 20), none, .f (.fadr 6 (.t 1))⟩,
   ⟨(some 21), none, .f (.ld (.t 20))⟩,
   ⟨(some 22), none, .f (.fadr 6 (.t 3))⟩,
   ⟨none, none, .x (.st 1 (.t 22) (.t 21))⟩])
 (.seq (.reg [
   ⟨(some 23), none, .f (.fadr 7 (.t 1))⟩,
   ⟨(some 24), none, .f (.ldA 2 (.t 23))⟩,
   ⟨(some 25), none, .x (.call 115 [(.t 24)])⟩,
   ⟨(some 26), none, .f (.fadr 7 (.t 3))⟩,
   ⟨none, none, .x (.st 2 (.t 26) (.t 25))⟩])
 (.seq (.reg [
   ⟨(some 27), none, .f (.fadr 9 (.t 1))⟩,
   ⟨(some 28), none, .f (.ld (.t 27))⟩,
   ⟨(some 29), none, .f (.fadr 9 (.t 3))⟩,
   ⟨none, none, .x (.st 1 (.t 29) (.t 28))⟩])
 (.seq (.reg [
   ⟨(some 30), none, .f (.fadr 10 (.t 1))⟩,
   ⟨(some 31), none, .f (.ld (.t 30))⟩,
   ⟨(some 32), none, .f (.fadr 10 (.t 3))⟩,
   ⟨none, none, .x (.st 1 (.t 32) (.t 31))⟩])
 (.seq (.reg [
   ⟨(some 33), none, .f (.fadr 11 (.t 1))⟩,
   ⟨(some 34), none, .f (.ld (.t 33))⟩,
   ⟨(some 35), none, .f (.fadr 11 (.t 3))⟩,
   ⟨none, none, .x (.st 1 (.t 35) (.t 34))⟩])
 (.seq (.reg [
   ⟨(some 36), none, .f (.ldA 12 (.t 3))⟩,
   ⟨none, none, .x (.st 12 (.t 2) (.t 36))⟩])
 .ret)))))))))))))
theorem ok89 : fnComp Try.prog 89 = some (37, c89, [(.ldA 12 (.t 2))]) := by kernel_rfl

/-- loop.example/g00003/laws.eqHostLink -/
def c92 : CC :=
 (.seq (.reg [
   ⟨(some 2), none, .x (.box 73 5 (.t 0))⟩,
   ⟨(some 3), none, .x (.box 73 5 (.t 1))⟩,
   ⟨(some 4), none, .f (.mv (.c (.bool false)))⟩])
 (.seq (.seq (.reg [
   ⟨(some 5), none, .f (.fadr 0 (.t 2))⟩,
   ⟨(some 6), none, .f (.ld (.t 5))⟩,
   ⟨(some 7), none, .f (.fadr 0 (.t 3))⟩,
   ⟨(some 8), none, .f (.ld (.t 7))⟩,
   ⟨(some 9), none, .f (.bin .neq (.t 6) (.t 8))⟩])
 (.cond (.t 9)
  (.seq (.reg [
    ⟨(some 4), none, .f (.mv (.c (.bool false)))⟩])
  .ret)
  .skip))
 (.seq (.seq (.reg [
   ⟨(some 10), none, .f (.fadr 1 (.t 2))⟩,
   ⟨(some 11), none, .f (.ld (.t 10))⟩,
   ⟨(some 12), none, .f (.fadr 1 (.t 3))⟩,
   ⟨(some 13), none, .f (.ld (.t 12))⟩,
   ⟨(some 14), none, .f (.bin .neq (.t 11) (.t 13))⟩])
 (.cond (.t 14)
  (.seq (.reg [
    ⟨(some 4), none, .f (.mv (.c (.bool false)))⟩])
  .ret)
  .skip))
 (.seq (.seq (.reg [
   ⟨(some 15), none, .f (.fadr 2 (.t 2))⟩,
   ⟨(some 16), none, .f (.ldA 2 (.t 15))⟩,
   ⟨(some 17), none, .f (.fadr 2 (.t 3))⟩,
   ⟨(some 18), none, .f (.ldA 2 (.t 17))⟩,
   ⟨(some 19), none, .x (.call 116 [(.t 16), (.t 18)])⟩,
   ⟨(some 20), none, .f (.un .not (.t 19))⟩])
 (.cond (.t 20)
  (.seq (.reg [
    ⟨(some 4), none, .f (.mv (.c (.bool false)))⟩])
  .ret)
  .skip))
 (.seq (.seq (.reg [
   ⟨(some 21), none, .f (.fadr 4 (.t 2))⟩,
   ⟨(some 22), none, .f (.ld (.t 21))⟩,
   ⟨(some 23), none, .f (.fadr 4 (.t 3))⟩,
   ⟨(some 24), none, .f (.ld (.t 23))⟩,
   ⟨(some 25), none, .f (.bin .neq (.t 22) (.t 24))⟩])
 (.cond (.t 25)
  (.seq (.reg [
    ⟨(some 4), none, .f (.mv (.c (.bool false)))⟩])
  .ret)
  .skip))
 (.seq (.reg [
   ⟨(some 4), none, .f (.mv (.c (.bool true)))⟩])
 .ret))))))
theorem ok92 : fnComp Try.prog 92 = some (26, c92, [(.mv (.t 4))]) := by kernel_rfl

/-- loop.example/g00003/laws.eqRoute -/
def c93 : CC :=
 (.seq (.reg [
   ⟨(some 2), none, .x (.box 75 5 (.t 0))⟩,
   ⟨(some 3), none, .x (.box 75 5 (.t 1))⟩,
   ⟨(some 4), none, .f (.mv (.c (.bool false)))⟩])
 (.seq (.seq (.reg [
   ⟨(some 5), none, .f (.fadr 0 (.t 2))⟩,
   ⟨(some 6), none, .f (.ldA 2 (.t 5))⟩,
   ⟨(some 7), none, .f (.fadr 0 (.t 3))⟩,
   ⟨(some 8), none, .f (.ldA 2 (.t 7))⟩,
   ⟨(some 9), none, .x (.call 116 [(.t 6), (.t 8)])⟩,
   ⟨(some 10), none, .f (.un .not (.t 9))⟩])
 (.cond (.t 10)
  (.seq (.reg [
    ⟨(some 4), none, .f (.mv (.c (.bool false)))⟩])
  .ret)
  .skip))
 (.seq (.seq (.reg [
   ⟨(some 11), none, .f (.fadr 2 (.t 2))⟩,
   ⟨(some 12), none, .f (.ld (.t 11))⟩,
   ⟨(some 13), none, .f (.fadr 2 (.t 3))⟩,
   ⟨(some 14), none, .f (.ld (.t 13))⟩,
   ⟨(some 15), none, .f (.bin .neq (.t 12) (.t 14))⟩])
 (.cond (.t 15)
  (.seq (.reg [
    ⟨(some 4), none, .f (.mv (.c (.bool false)))⟩])
  .ret)
  .skip))
 (.seq (.seq (.reg [
   ⟨(some 16), none, .f (.fadr 3 (.t 2))⟩,
   ⟨(some 17), none, .f (.ld (.t 16))⟩,
   ⟨(some 18), none, .f (.fadr 3 (.t 3))⟩,
   ⟨(some 19), none, .f (.ld (.t 18))⟩,
   ⟨(some 20), none, .f (.bin .neq (.t 17) (.t 19))⟩])
 (.cond (.t 20)
  (.seq (.reg [
    ⟨(some 4), none, .f (.mv (.c (.bool false)))⟩])
  .ret)
  .skip))
 (.seq (.seq (.reg [
   ⟨(some 21), none, .f (.fadr 4 (.t 2))⟩,
   ⟨(some 22), none, .f (.ld (.t 21))⟩,
   ⟨(some 23), none, .f (.fadr 4 (.t 3))⟩,
   ⟨(some 24), none, .f (.ld (.t 23))⟩,
   ⟨(some 25), none, .f (.bin .neq (.t 22) (.t 24))⟩])
 (.cond (.t 25)
  (.seq (.reg [
    ⟨(some 4), none, .f (.mv (.c (.bool false)))⟩])
  .ret)
  .skip))
 (.seq (.reg [
   ⟨(some 4), none, .f (.mv (.c (.bool true)))⟩])
 .ret))))))
theorem ok93 : fnComp Try.prog 93 = some (26, c93, [(.mv (.t 4))]) := by kernel_rfl

/-- loop.example/g00003/laws.eqRule -/
def c94 : CC :=
 (.seq (.reg [
   ⟨(some 2), none, .x (.box 80 12 (.t 0))⟩,
   ⟨(some 3), none, .x (.box 80 12 (.t 1))⟩,
   ⟨(some 4), none, .f (.mv (.c (.bool false)))⟩])
 (.seq (.seq (.reg [
   ⟨(some 5), none, .f (.fadr 0 (.t 2))⟩,
   ⟨(some 6), none, .f (.ld (.t 5))⟩,
   ⟨(some 7), none, .f (.fadr 0 (.t 3))⟩,
   ⟨(some 8), none, .f (.ld (.t 7))⟩,
   ⟨(some 9), none, .f (.bin .neq (.t 6) (.t 8))⟩])
 (.cond (.t 9)
  (.seq (.reg [
    ⟨(some 4), none, .f (.mv (.c (.bool false)))⟩])
  .ret)
  .skip))
 (.seq (.seq (.reg [
   ⟨(some 10), none, .f (.fadr 1 (.t 2))⟩,
   ⟨(some 11), none, .f (.ld (.t 10))⟩,
   ⟨(some 12), none, .f (.fadr 1 (.t 3))⟩,
   ⟨(some 13), none, .f (.ld (.t 12))⟩,
   ⟨(some 14), none, .f (.bin .neq (.t 11) (.t 13))⟩])
 (.cond (.t 14)
  (.seq (.reg [
    ⟨(some 4), none, .f (.mv (.c (.bool false)))⟩])
  .ret)
  .skip))
 (.seq (.seq (.reg [
   ⟨(some 15), none, .f (.fadr 2 (.t 2))⟩,
   ⟨(some 16), none, .f (.ld (.t 15))⟩,
   ⟨(some 17), none, .f (.fadr 2 (.t 3))⟩,
   ⟨(some 18), none, .f (.ld (.t 17))⟩,
   ⟨(some 19), none, .f (.bin .neq (.t 16) (.t 18))⟩])
 (.cond (.t 19)
  (.seq (.reg [
    ⟨(some 4), none, .f (.mv (.c (.bool false)))⟩])
  .ret)
  .skip))
 (.seq (.seq (.reg [
   ⟨(some 20), none, .f (.fadr 3 (.t 2))⟩,
   ⟨(some 21), none, .f (.ldA 2 (.t 20))⟩,
   ⟨(some 22), none, .f (.fadr 3 (.t 3))⟩,
   ⟨(some 23), none, .f (.ldA 2 (.t 22))⟩,
   ⟨(some 24), none, .x (.call 116 [(.t 21), (.t 23)])⟩,
   ⟨(some 25), none, .f (.un .not (.t 24))⟩])
 (.cond (.t 25)
  (.seq (.reg [
    ⟨(some 4), none, .f (.mv (.c (.bool false)))⟩])
  .ret)
  .skip))
 (.seq (.seq (.reg [
   ⟨(some 26), none, .f (.fadr 5 (.t 2))⟩,
   ⟨(some 27), none, .f (.ld (.t 26))⟩,
   ⟨(some 28), none, .f (.fadr 5 (.t 3))⟩,
   ⟨(some 29), none, .f (.ld (.t 28))⟩,
   ⟨(some 30), none, .f (.bin .neq (.t 27) (.t 29))⟩])
 (.cond (.t 30)
  (.seq (.reg [
    ⟨(some 4), none, .f (.mv (.c (.bool false)))⟩])
  .ret)
  .skip))
 (.seq (.seq (.reg [
   ⟨(some 31), none, .f (.fadr 6 (.t 2))⟩,
   ⟨(some 32), none, .f (.ld (.t 31))⟩,
   ⟨(some 33), none, .f (.fadr 6 (.t 3))⟩,
   ⟨(some 34), none, .f (.ld (.t 33))⟩,
   ⟨(some 35), none, .f (.bin .neq (.t 32) (.t 34))⟩])
 (.cond (.t 35)
  (.seq (.reg [
    ⟨(some 4), none, .f (.mv (.c (.bool false)))⟩])
  .ret)
  .skip))
 (.seq (.seq (.reg [
   ⟨(some 36), none, .f (.fadr 7 (.t 2))⟩,
   ⟨(some 37), none, .f (.ldA 2 (.t 36))⟩,
   ⟨(some 38), none, .f (.fadr 7 (.t 3))⟩,
   ⟨(some 39), none, .f (.ldA 2 (.t 38))⟩,
   ⟨(some 40), none, .x (.call 116 [(.t 37), (.t 39)])⟩,
   ⟨(some 41), none, .f (.un .not (.t 40))⟩])
 (.cond (.t 41)
  (.seq (.reg [
    ⟨(some 4), none, .f (.mv (.c (.bool false)))⟩])
  .ret)
  .skip))
 (.seq (.seq (.reg [
   ⟨(some 42), none, .f (.fadr 9 (.t 2))⟩,
   ⟨(some 43), none, .f (.ld (.t 42))⟩,
   ⟨(some 44), none, .f (.fadr 9 (.t 3))⟩,
   ⟨(some 45), none, .f (.ld (.t 44))⟩,
   ⟨(some 46), none, .f (.bin .neq (.t 43) (.t 45))⟩])
 (.cond (.t 46)
  (.seq (.reg [
    ⟨(some 4), none, .f (.mv (.c (.bool false)))⟩])
  .ret)
  .skip))
 (.seq (.seq (.reg [
   ⟨(some 47), none, .f (.fadr 10 (.t 2))⟩,
   ⟨(some 48), none, .f (.ld (.t 47))⟩,
   ⟨(some 49), none, .f (.fadr 10 (.t 3))⟩,
   ⟨(some 50), none, .f (.ld (.t 49))⟩,
   ⟨(some 51), none, .f (.bin .neq (.t 48) (.t 50))⟩])
 (.cond (.t 51)
  (.seq (.reg [
    ⟨(some 4), none, .f (.mv (.c (.bool false)))⟩])
  .ret)
  .skip))
 (.seq (.seq (.reg [
   ⟨(some 52), none, .f (.fadr 11 (.t 2))⟩,
   ⟨(some 53), none, .f (.ld (.t 52))⟩,
   ⟨(some 54), none, .f (.fadr 11 (.t 3))⟩,
   ⟨(some 55), none, .f (.ld (.t 54))⟩,
   ⟨(some 56), none, .f (.bin .neq (.t 53) (.t 55))⟩])
 (.cond (.t 56)
  (.seq (.reg [
    ⟨(some 4), none, .f (.mv (.c (.bool false)))⟩])
  .ret)
  .skip))
 (.seq (.reg [
   ⟨(some 4), none, .f (.mv (.c (.bool true)))⟩])
 .ret))))))))))))
theorem ok94 : fnComp Try.prog 94 = some (57, c94, [(.mv (.t 4))]) := by kernel_rfl

/-- loop.example/g00003/laws.toPrefix -/
def c115 : CC :=
 (.seq (.reg [
   ⟨(some 1), none, .x (.box 139 2 (.t 0))⟩,
   ⟨(some 2), none, .x (.zero 71 2 [(.int .i64 0), (.int .i64 0)])⟩])
 (.seq (.reg [
   ⟨(some 3), none, .x (.zero 71 2 [(.int .i64 0), (.int .i64 0)])⟩])
 (.seq (.reg [
   ⟨(some 4), none, .f (.fadr 0 (.t 1))⟩,
   ⟨(some 5), none, .f (.ld (.t 4))⟩,
   ⟨(some 6), none, .f (.fadr 0 (.t 3))⟩,
   ⟨none, none, .x (.st 1 (.t 6) (.t 5))⟩])
 (.seq (.reg [
   ⟨(some 7), none, .f (.fadr 1 (.t 1))⟩,
   ⟨(some 8), none, .f (.ld (.t 7))⟩,
   ⟨(some 9), none, .f (.fadr 1 (.t 3))⟩,
   ⟨none, none, .x (.st 1 (.t 9) (.t 8))⟩])
 (.seq (.reg [
   ⟨(some 10), none, .f (.ldA 2 (.t 3))⟩,
   ⟨none, none, .x (.st 2 (.t 2) (.t 10))⟩])
 .ret)))))
theorem ok115 : fnComp Try.prog 115 = some (11, c115, [(.ldA 2 (.t 2))]) := by kernel_rfl

/-- loop.example/g00003/laws.eqPrefix -/
def c116 : CC :=
 (.seq (.reg [
   ⟨(some 2), none, .x (.box 71 2 (.t 0))⟩,
   ⟨(some 3), none, .x (.box 71 2 (.t 1))⟩,
   ⟨(some 4), none, .f (.mv (.c (.bool false)))⟩])
 (.seq (.seq (.reg [
   ⟨(some 5), none, .f (.fadr 0 (.t 2))⟩,
   ⟨(some 6), none, .f (.ld (.t 5))⟩,
   ⟨(some 7), none, .f (.fadr 0 (.t 3))⟩,
   ⟨(some 8), none, .f (.ld (.t 7))⟩,
   ⟨(some 9), none, .f (.bin .neq (.t 6) (.t 8))⟩])
 (.cond (.t 9)
  (.seq (.reg [
    ⟨(some 4), none, .f (.mv (.c (.bool false)))⟩])
  .ret)
  .skip))
 (.seq (.seq (.reg [
   ⟨(some 10), none, .f (.fadr 1 (.t 2))⟩,
   ⟨(some 11), none, .f (.ld (.t 10))⟩,
   ⟨(some 12), none, .f (.fadr 1 (.t 3))⟩,
   ⟨(some 13), none, .f (.ld (.t 12))⟩,
   ⟨(some 14), none, .f (.bin .neq (.t 11) (.t 13))⟩])
 (.cond (.t 14)
  (.seq (.reg [
    ⟨(some 4), none, .f (.mv (.c (.bool false)))⟩])
  .ret)
  .skip))
 (.seq (.reg [
   ⟨(some 4), none, .f (.mv (.c (.bool true)))⟩])
 .ret))))
theorem ok116 : fnComp Try.prog 116 = some (15, c116, [(.mv (.t 4))]) := by kernel_rfl

end Go.Proofs.Ytcmcfmgabafljaa

namespace Go.Proofs.Ytcmcfmgabafljaa
open Go Go.IW
/-- loop.example/g00003/spec.HostOK -/
def c7 : CC :=
 (.seq (.reg [
   ⟨(some 1), none, .x (.box 33 6 (.t 0))⟩,
   ⟨(some 2), none, .f (.mv (.c (.bool false)))⟩])
 (.seq (.seq (.reg [
   ⟨(some 8), none, .f (.fadr 0 (.t 1))⟩,
   ⟨(some 9), none, .f (.ld (.t 8))⟩,
   ⟨(some 10), none, .f (.len (.t 9))⟩,
   ⟨(some 11), none, .f (.bin .lss (.t 10) (.c (.int .i64 1)))⟩,
   ⟨(some 12), none, .f (.mv (.t 11))⟩,
   ⟨(some 13), (some (12, false)), .f (.fadr 0 (.t 1))⟩,
   ⟨(some 14), (some (12, false)), .f (.ld (.t 13))⟩,
   ⟨(some 15), (some (12, false)), .f (.len (.t 14))⟩,
   ⟨(some 16), (some (12, false)), .f (.bin .gtr (.t 15) (.c (.int .i64 8)))⟩,
   ⟨(some 17), none, .f (.pick (.t 12) (.c (.bool true)) (.t 16))⟩,
   ⟨(some 18), none, .f (.mv (.t 17))⟩,
   ⟨(some 19), (some (18, false)), .f (.fadr 1 (.t 1))⟩,
   ⟨(some 20), (some (18, false)), .f (.ld (.t 19))⟩,
   ⟨(some 21), (some (18, false)), .f (.len (.t 20))⟩,
   ⟨(some 22), (some (18, false)), .f (.bin .gtr (.t 21) (.c (.int .i64 64)))⟩,
   ⟨(some 23), none, .f (.pick (.t 18) (.c (.bool true)) (.t 22))⟩,
   ⟨(some 24), none, .f (.mv (.t 23))⟩,
   ⟨(some 25), (some (24, false)), .f (.fadr 2 (.t 1))⟩,
   ⟨(some 26), (some (24, false)), .f (.ld (.t 25))⟩,
   ⟨(some 27), (some (24, false)), .f (.len (.t 26))⟩,
   ⟨(some 28), (some (24, false)), .f (.bin .gtr (.t 27) (.c (.int .i64 64)))⟩,
   ⟨(some 29), none, .f (.pick (.t 24) (.c (.bool true)) (.t 28))⟩,
   ⟨(some 30), none, .f (.mv (.t 29))⟩,
   ⟨(some 31), (some (30, false)), .f (.fadr 5 (.t 1))⟩,
   ⟨(some 32), (some (30, false)), .f (.ld (.t 31))⟩,
   ⟨(some 33), (some (30, false)), .x (.call 29 [(.t 32)])⟩,
   ⟨(some 34), (some (30, false)), .f (.un .not (.t 33))⟩,
   ⟨(some 35), none, .f (.pick (.t 30) (.c (.bool true)) (.t 34))⟩])
 (.cond (.t 35)
  (.seq (.reg [
    ⟨(some 2), none, .f (.mv (.c (.bool false)))⟩])
  .ret)
  .skip))
 (.seq (.seq (.reg [
   ⟨(some 3), none, .f (.mv (.c (.int .i64 0)))⟩])
 (.block 0 (.loop (.seq (.seq (.reg [
     ⟨(some 36), none, .f (.mv (.t 3))⟩,
     ⟨(some 37), none, .f (.fadr 0 (.t 1))⟩,
     ⟨(some 38), none, .f (.ld (.t 37))⟩,
     ⟨(some 39), none, .f (.len (.t 38))⟩,
     ⟨(some 40), none, .f (.bin .lss (.t 36) (.t 39))⟩])
   (.cond (.t 40)
    .skip
    (.exit 0)))
   (.seq (.block 1 (.seq (.seq (.reg [
      ⟨(some 43), none, .f (.fadr 0 (.t 1))⟩,
      ⟨(some 44), none, .f (.ld (.t 43))⟩,
      ⟨(some 45), none, .f (.mv (.t 3))⟩,
      ⟨(some 46), none, .f (.iadr 5 (.t 44) (.t 45))⟩,
      ⟨(some 47), none, .f (.ldA 5 (.t 46))⟩,
      ⟨(some 48), none, .x (.call 30 [(.t 47)])⟩,
      ⟨(some 49), none, .f (.un .not (.t 48))⟩])
    (.cond (.t 49)
     (.seq (.reg [
       ⟨(some 2), none, .f (.mv (.c (.bool false)))⟩])
     .ret)
     .skip))
    (.seq (.reg [
      ⟨(some 4), none, .f (.mv (.c (.int .i64 0)))⟩])
    (.block 2 (.loop (.seq (.seq (.reg [
        ⟨(some 50), none, .f (.mv (.t 4))⟩,
        ⟨(some 51), none, .f (.mv (.t 3))⟩,
        ⟨(some 52), none, .f (.bin .lss (.t 50) (.t 51))⟩])
      (.cond (.t 52)
       .skip
       (.exit 2)))
      (.seq (.block 3 (.seq (.dreg [
         ⟨(some 55), none, .f (.fadr 0 (.t 1))⟩,
         ⟨(some 56), none, .f (.ld (.t 55))⟩,
         ⟨(some 57), none, .f (.mv (.t 4))⟩,
         ⟨(some 58), none, .f (.iadr 5 (.t 56) (.t 57))⟩,
         ⟨(some 59), none, .f (.fadr 0 (.t 58))⟩,
         ⟨(some 60), none, .f (.ld (.t 59))⟩,
         ⟨(some 61), none, .f (.fadr 0 (.t 1))⟩,
         ⟨(some 62), none, .f (.ld (.t 61))⟩,
         ⟨(some 63), none, .f (.mv (.t 3))⟩,
         ⟨(some 64), none, .f (.iadr 5 (.t 62) (.t 63))⟩,
         ⟨(some 65), none, .f (.fadr 0 (.t 64))⟩,
         ⟨(some 66), none, .f (.ld (.t 65))⟩,
         ⟨(some 67), none, .f (.bin .eql (.t 60) (.t 66))⟩,
         ⟨(some 68), none, .f (.mv (.t 67))⟩,
         ⟨(some 69), (some (68, false)), .f (.fadr 0 (.t 1))⟩,
         ⟨(some 70), (some (68, false)), .f (.ld (.t 69))⟩,
         ⟨(some 71), (some (68, false)), .f (.mv (.t 4))⟩,
         ⟨(some 72), (some (68, false)), .f (.iadr 5 (.t 70) (.t 71))⟩,
         ⟨(some 73), (some (68, false)), .f (.fadr 1 (.t 72))⟩,
         ⟨(some 74), (some (68, false)), .f (.ld (.t 73))⟩,
         ⟨(some 75), (some (68, false)), .f (.fadr 0 (.t 1))⟩,
         ⟨(some 76), (some (68, false)), .f (.ld (.t 75))⟩,
         ⟨(some 77), (some (68, false)), .f (.mv (.t 3))⟩,
         ⟨(some 78), (some (68, false)), .f (.iadr 5 (.t 76) (.t 77))⟩,
         ⟨(some 79), (some (68, false)), .f (.fadr 1 (.t 78))⟩,
         ⟨(some 80), (some (68, false)), .f (.ld (.t 79))⟩,
         ⟨(some 81), (some (68, false)), .f (.bin .eql (.t 74) (.t 80))⟩,
         ⟨(some 82), none, .f (.pick (.t 68) (.c (.bool true)) (.t 81))⟩]
         [false, false, false, false, false, false, false, false, false, false, false, false, false, false, false, false, false, false, false, false, false, false, false, false, false, false, false, false] [[], [0], [], [1, 0, 2], [3, 1, 0, 2], [4, 3, 1, 0, 2], [], [6], [], [7, 6, 8], [9, 7, 6, 8], [10, 9, 7, 6, 8], [5, 4, 3, 1, 0, 2, 11, 10, 9, 7, 6, 8], [12, 5, 4, 3, 1, 0, 2, 11, 10, 9, 7, 6, 8], [13, 12, 5, 4, 3, 1, 0, 2, 11, 10, 9, 7, 6, 8], [14, 13, 12, 5, 4, 3, 1, 0, 2, 11, 10, 9, 7, 6, 8], [13, 12, 5, 4, 3, 1, 0, 2, 11, 10, 9, 7, 6, 8], [15, 14, 13, 12, 5, 4, 3, 1, 0, 2, 11, 10, 9, 7, 6, 8, 16], [17, 15, 14, 13, 12, 5, 4, 3, 1, 0, 2, 11, 10, 9, 7, 6, 8, 16], [18, 17, 15, 14, 13, 12, 5, 4, 3, 1, 0, 2, 11, 10, 9, 7, 6, 8, 16], [13, 12, 5, 4, 3, 1, 0, 2, 11, 10, 9, 7, 6, 8], [20, 13, 12, 5, 4, 3, 1, 0, 2, 11, 10, 9, 7, 6, 8], [13, 12, 5, 4, 3, 1, 0, 2, 11, 10, 9, 7, 6, 8], [21, 20, 13, 12, 5, 4, 3, 1, 0, 2, 11, 10, 9, 7, 6, 8, 22], [23, 21, 20, 13, 12, 5, 4, 3, 1, 0, 2, 11, 10, 9, 7, 6, 8, 22], [24, 23, 21, 20, 13, 12, 5, 4, 3, 1, 0, 2, 11, 10, 9, 7, 6, 8, 22], [19, 18, 17, 15, 14, 13, 12, 5, 4, 3, 1, 0, 2, 11, 10, 9, 7, 6, 8, 16, 25, 24, 23, 21, 20, 22], [13, 12, 5, 4, 3, 1, 0, 2, 11, 10, 9, 7, 6, 8, 26, 19, 18, 17, 15, 14, 16, 25, 24, 23, 21, 20, 22]] [0, 1, 2, 3, 4, 5, 6, 7, 8, 9, 10, 11, 12, 13, 14, 15, 16, 17, 18, 19, 20, 21, 22, 23, 24, 25, 26, 27])
       (.cond (.t 82)
        (.seq (.reg [
          ⟨(some 2), none, .f (.mv (.c (.bool false)))⟩])
        .ret)
        .skip)))
      (.reg [
        ⟨(some 53), none, .f (.mv (.t 4))⟩,
        ⟨(some 54), none, .f (.bin .add (.t 53) (.c (.int .i64 1)))⟩,
        ⟨(some 4), none, .f (.mv (.t 54))⟩]))))))))
   (.reg [
     ⟨(some 41), none, .f (.mv (.t 3))⟩,
     ⟨(some 42), none, .f (.bin .add (.t 41) (.c (.int .i64 1)))⟩,
     ⟨(some 3), none, .f (.mv (.t 42))⟩]))))))
 (.seq (.seq (.reg [
   ⟨(some 5), none, .f (.mv (.c (.int .i64 0)))⟩])
 (.block 4 (.loop (.seq (.seq (.reg [
     ⟨(some 83), none, .f (.mv (.t 5))⟩,
     ⟨(some 84), none, .f (.fadr 1 (.t 1))⟩,
     ⟨(some 85), none, .f (.ld (.t 84))⟩,
     ⟨(some 86), none, .f (.len (.t 85))⟩,
     ⟨(some 87), none, .f (.bin .lss (.t 83) (.t 86))⟩])
   (.cond (.t 87)
    .skip
    (.exit 4)))
   (.seq (.block 5 (.seq (.reg [
      ⟨(some 90), none, .f (.fadr 1 (.t 1))⟩,
      ⟨(some 91), none, .f (.ld (.t 90))⟩,
      ⟨(some 92), none, .f (.mv (.t 5))⟩,
      ⟨(some 93), none, .f (.iadr 5 (.t 91) (.t 92))⟩,
      ⟨(some 94), none, .f (.ldA 5 (.t 93))⟩,
      ⟨(some 6), none, .x (.zero 75 5 [(.int .i64 0), (.int .i64 0), (.int .i64 0), (.int .i64 0), (.int .i64 0)])⟩,
      ⟨none, none, .x (.st 5 (.t 6) (.t 94))⟩])
    (.seq (.reg [
      ⟨(some 95), none, .f (.ldA 5 (.t 6))⟩,
      ⟨(some 96), none, .x (.call 31 [(.t 95)])⟩,
      ⟨(some 97), none, .f (.un .not (.t 96))⟩,
      ⟨(some 98), none, .f (.mv (.t 97))⟩,
      ⟨(some 99), (some (98, false)), .f (.fadr 3 (.t 6))⟩,
      ⟨(some 100), (some (98, false)), .f (.ld (.t 99))⟩,
      ⟨(some 101), (some (98, false)), .f (.fadr 0 (.t 1))⟩,
      ⟨(some 102), (some (98, false)), .f (.ld (.t 101))⟩,
      ⟨(some 103), (some (98, false)), .f (.len (.t 102))⟩,
      ⟨(some 104), (some (98, false)), .f (.bin .geq (.t 100) (.t 103))⟩,
      ⟨(some 105), none, .f (.pick (.t 98) (.c (.bool true)) (.t 104))⟩,
      ⟨(some 106), none, .f (.mv (.t 105))⟩,
      ⟨(some 107), (some (106, false)), .f (.ldA 6 (.t 1))⟩,
      ⟨(some 108), (some (106, false)), .f (.fadr 2 (.t 6))⟩,
      ⟨(some 109), (some (106, false)), .f (.ld (.t 108))⟩,
      ⟨(some 110), (some (106, false)), .x (.call 32 [(.t 107), (.t 109)])⟩,
      ⟨(some 111), none, .f (.pick (.t 106) (.c (.bool true)) (.t 110))⟩])
    (.cond (.t 111)
     (.seq (.reg [
       ⟨(some 2), none, .f (.mv (.c (.bool false)))⟩])
     .ret)
     .skip))))
   (.reg [
     ⟨(some 88), none, .f (.mv (.t 5))⟩,
     ⟨(some 89), none, .f (.bin .add (.t 88) (.c (.int .i64 1)))⟩,
     ⟨(some 5), none, .f (.mv (.t 89))⟩]))))))
 (.seq (.seq (.reg [
   ⟨(some 7), none, .f (.mv (.c (.int .i64 0)))⟩])
 (.block 6 (.loop (.seq (.seq (.reg [
     ⟨(some 112), none, .f (.mv (.t 7))⟩,
     ⟨(some 113), none, .f (.fadr 2 (.t 1))⟩,
     ⟨(some 114), none, .f (.ld (.t 113))⟩,
     ⟨(some 115), none, .f (.len (.t 114))⟩,
     ⟨(some 116), none, .f (.bin .lss (.t 112) (.t 115))⟩])
   (.cond (.t 116)
    .skip
    (.exit 6)))
   (.seq (.block 7 (.seq (.reg [
      ⟨(some 119), none, .f (.fadr 2 (.t 1))⟩,
      ⟨(some 120), none, .f (.ld (.t 119))⟩,
      ⟨(some 121), none, .f (.mv (.t 7))⟩,
      ⟨(some 122), none, .f (.iadr 12 (.t 120) (.t 121))⟩,
      ⟨(some 123), none, .f (.ldA 12 (.t 122))⟩,
      ⟨(some 124), none, .x (.call 33 [(.t 123)])⟩,
      ⟨(some 125), none, .f (.un .not (.t 124))⟩])
    (.cond (.t 125)
     (.seq (.reg [
       ⟨(some 2), none, .f (.mv (.c (.bool false)))⟩])
     .ret)
     .skip)))
   (.reg [
     ⟨(some 117), none, .f (.mv (.t 7))⟩,
     ⟨(some 118), none, .f (.bin .add (.t 117) (.c (.int .i64 1)))⟩,
     ⟨(some 7), none, .f (.mv (.t 118))⟩]))))))
 (.seq (.reg [
   ⟨(some 2), none, .f (.mv (.c (.bool true)))⟩])
 .ret))))))
theorem ok7 : fnComp Try.prog 7 = some (126, c7, [(.mv (.t 2))]) := by kernel_rfl

/-- loop.example/g00003/impl.HostOK -/
def c9 : CC :=
 (.seq (.reg [
   ⟨(some 1), none, .x (.box 33 6 (.t 0))⟩,
   ⟨(some 2), none, .f (.mv (.c (.bool false)))⟩])
 (.seq (.seq (.reg [
   ⟨(some 13), none, .f (.fadr 0 (.t 1))⟩,
   ⟨(some 14), none, .f (.ld (.t 13))⟩,
   ⟨(some 15), none, .f (.len (.t 14))⟩,
   ⟨(some 16), none, .f (.bin .lss (.t 15) (.c (.int .i64 1)))⟩,
   ⟨(some 17), none, .f (.mv (.t 16))⟩,
   ⟨(some 18), (some (17, false)), .f (.fadr 0 (.t 1))⟩,
   ⟨(some 19), (some (17, false)), .f (.ld (.t 18))⟩,
   ⟨(some 20), (some (17, false)), .f (.len (.t 19))⟩,
   ⟨(some 21), (some (17, false)), .f (.bin .gtr (.t 20) (.c (.int .i64 8)))⟩,
   ⟨(some 22), none, .f (.pick (.t 17) (.c (.bool true)) (.t 21))⟩,
   ⟨(some 23), none, .f (.mv (.t 22))⟩,
   ⟨(some 24), (some (23, false)), .f (.fadr 1 (.t 1))⟩,
   ⟨(some 25), (some (23, false)), .f (.ld (.t 24))⟩,
   ⟨(some 26), (some (23, false)), .f (.len (.t 25))⟩,
   ⟨(some 27), (some (23, false)), .f (.bin .gtr (.t 26) (.c (.int .i64 64)))⟩,
   ⟨(some 28), none, .f (.pick (.t 23) (.c (.bool true)) (.t 27))⟩,
   ⟨(some 29), none, .f (.mv (.t 28))⟩,
   ⟨(some 30), (some (29, false)), .f (.fadr 2 (.t 1))⟩,
   ⟨(some 31), (some (29, false)), .f (.ld (.t 30))⟩,
   ⟨(some 32), (some (29, false)), .f (.len (.t 31))⟩,
   ⟨(some 33), (some (29, false)), .f (.bin .gtr (.t 32) (.c (.int .i64 64)))⟩,
   ⟨(some 34), none, .f (.pick (.t 29) (.c (.bool true)) (.t 33))⟩,
   ⟨(some 35), none, .f (.mv (.t 34))⟩,
   ⟨(some 36), (some (35, false)), .f (.fadr 5 (.t 1))⟩,
   ⟨(some 37), (some (35, false)), .f (.ld (.t 36))⟩,
   ⟨(some 38), (some (35, false)), .x (.call 37 [(.t 37)])⟩,
   ⟨(some 39), (some (35, false)), .f (.un .not (.t 38))⟩,
   ⟨(some 40), none, .f (.pick (.t 35) (.c (.bool true)) (.t 39))⟩])
 (.cond (.t 40)
  (.seq (.reg [
    ⟨(some 2), none, .f (.mv (.c (.bool false)))⟩])
  .ret)
  .skip))
 (.seq (.seq (.reg [
   ⟨(some 41), none, .f (.fadr 0 (.t 1))⟩,
   ⟨(some 42), none, .f (.ld (.t 41))⟩,
   ⟨(some 43), none, .f (.len (.t 42))⟩,
   ⟨(some 44), none, .f (.mv (.c (.int .i64 0)))⟩])
 (.block 0 (.loop (.seq (.reg [
     ⟨(some 45), none, .f (.bin .lss (.t 44) (.t 43))⟩])
   (.seq (.cond (.t 45)
    .skip
    (.exit 0))
   (.seq (.block 1 (.seq (.reg [
      ⟨(some 46), none, .f (.mv (.t 44))⟩,
      ⟨(some 47), none, .f (.iadr 5 (.t 42) (.t 44))⟩,
      ⟨(some 48), none, .f (.ldA 5 (.t 47))⟩,
      ⟨(some 4), none, .x (.zero 73 5 [(.int .i64 0), (.int .i64 0), (.int .i64 0), (.int .i64 0), (.int .i64 0)])⟩,
      ⟨(some 3), none, .f (.mv (.t 46))⟩,
      ⟨none, none, .x (.st 5 (.t 4) (.t 48))⟩])
    (.seq (.seq (.dreg [
      ⟨(some 49), none, .f (.fadr 0 (.t 4))⟩,
      ⟨(some 50), none, .f (.ld (.t 49))⟩,
      ⟨(some 51), none, .x (.call 38 [(.t 50)])⟩,
      ⟨(some 52), none, .f (.un .not (.t 51))⟩,
      ⟨(some 53), none, .f (.mv (.t 52))⟩,
      ⟨(some 54), (some (53, false)), .f (.fadr 0 (.t 4))⟩,
      ⟨(some 55), (some (53, false)), .f (.ld (.t 54))⟩,
      ⟨(some 56), (some (53, false)), .f (.bin .eql (.t 55) (.c (.int .i64 281474976710655)))⟩,
      ⟨(some 57), none, .f (.pick (.t 53) (.c (.bool true)) (.t 56))⟩,
      ⟨(some 58), none, .f (.mv (.t 57))⟩,
      ⟨(some 59), (some (58, false)), .f (.fadr 2 (.t 4))⟩,
      ⟨(some 60), (some (58, false)), .f (.ldA 2 (.t 59))⟩,
      ⟨(some 61), (some (58, false)), .x (.call 39 [(.t 60)])⟩,
      ⟨(some 62), (some (58, false)), .f (.un .not (.t 61))⟩,
      ⟨(some 63), none, .f (.pick (.t 58) (.c (.bool true)) (.t 62))⟩,
      ⟨(some 64), none, .f (.mv (.t 63))⟩,
      ⟨(some 65), (some (64, false)), .f (.fadr 1 (.t 4))⟩,
      ⟨(some 66), (some (64, false)), .f (.ld (.t 65))⟩,
      ⟨(some 67), (some (64, false)), .x (.call 40 [(.t 66)])⟩,
      ⟨(some 68), (some (64, false)), .f (.bin .neq (.t 67) (.c (.int .i64 6)))⟩,
      ⟨(some 69), none, .f (.pick (.t 64) (.c (.bool true)) (.t 68))⟩,
      ⟨(some 70), none, .f (.mv (.t 69))⟩,
      ⟨(some 71), (some (70, false)), .f (.fadr 2 (.t 4))⟩,
      ⟨(some 72), (some (70, false)), .f (.ldA 2 (.t 71))⟩,
      ⟨(some 73), (some (70, false)), .f (.fadr 1 (.t 4))⟩,
      ⟨(some 74), (some (70, false)), .f (.ld (.t 73))⟩,
      ⟨(some 75), (some (70, false)), .x (.call 41 [(.t 72), (.t 74)])⟩,
      ⟨(some 76), (some (70, false)), .f (.un .not (.t 75))⟩,
      ⟨(some 77), none, .f (.pick (.t 70) (.c (.bool true)) (.t 76))⟩,
      ⟨(some 78), none, .f (.mv (.t 77))⟩,
      ⟨(some 79), (some (78, false)), .f (.fadr 1 (.t 4))⟩,
      ⟨(some 80), (some (78, false)), .f (.ld (.t 79))⟩,
      ⟨(some 81), (some (78, false)), .f (.fadr 2 (.t 4))⟩,
      ⟨(some 82), (some (78, false)), .f (.ldA 2 (.t 81))⟩,
      ⟨(some 83), (some (78, false)), .x (.call 42 [(.t 82)])⟩,
      ⟨(some 84), (some (78, false)), .f (.bin .eql (.t 80) (.t 83))⟩,
      ⟨(some 85), none, .f (.pick (.t 78) (.c (.bool true)) (.t 84))⟩,
      ⟨(some 86), none, .f (.mv (.t 85))⟩,
      ⟨(some 87), (some (86, false)), .f (.fadr 4 (.t 4))⟩,
      ⟨(some 88), (some (86, false)), .f (.ld (.t 87))⟩,
      ⟨(some 89), (some (86, false)), .f (.bin .lss (.t 88) (.c (.int .i64 128)))⟩,
      ⟨(some 90), none, .f (.pick (.t 86) (.c (.bool true)) (.t 89))⟩,
      ⟨(some 91), none, .f (.mv (.t 90))⟩,
      ⟨(some 92), (some (91, false)), .f (.fadr 4 (.t 4))⟩,
      ⟨(some 93), (some (91, false)), .f (.ld (.t 92))⟩,
      ⟨(some 94), (some (91, false)), .f (.bin .gtr (.t 93) (.c (.int .i64 1500)))⟩,
      ⟨(some 95), none, .f (.pick (.t 91) (.c (.bool true)) (.t 94))⟩]
      [false, false, true, false, false, false, false, false, false, false, false, false, true, false, false, false, false, false, true, false, false, false, false, false, false, false, true, false, false, false, false, false, false, false, true, false, false, false, false, false, false, false, false, false, false, false, false] [[], [0], [1, 0], [2, 1, 0], [3, 2, 1, 0], [4, 3, 2, 1, 0], [5, 4, 3, 2, 1, 0], [6, 5, 4, 3, 2, 1, 0], [4, 3, 2, 1, 0, 7, 6, 5], [8, 4, 3, 2, 1, 0, 7, 6, 5], [9, 8, 4, 3, 2, 1, 0, 7, 6, 5], [10, 9, 8, 4, 3, 2, 1, 0, 7, 6, 5], [11, 10, 9, 8, 4, 3, 2, 1, 0, 7, 6, 5], [12, 11, 10, 9, 8, 4, 3, 2, 1, 0, 7, 6, 5], [9, 8, 4, 3, 2, 1, 0, 7, 6, 5, 13, 12, 11, 10], [14, 9, 8, 4, 3, 2, 1, 0, 7, 6, 5, 13, 12, 11, 10], [15, 14, 9, 8, 4, 3, 2, 1, 0, 7, 6, 5, 13, 12, 11, 10], [16, 15, 14, 9, 8, 4, 3, 2, 1, 0, 7, 6, 5, 13, 12, 11, 10], [17, 16, 15, 14, 9, 8, 4, 3, 2, 1, 0, 7, 6, 5, 13, 12, 11, 10], [18, 17, 16, 15, 14, 9, 8, 4, 3, 2, 1, 0, 7, 6, 5, 13, 12, 11, 10], [15, 14, 9, 8, 4, 3, 2, 1, 0, 7, 6, 5, 13, 12, 11, 10, 19, 18, 17, 16], [20, 15, 14, 9, 8, 4, 3, 2, 1, 0, 7, 6, 5, 13, 12, 11, 10, 19, 18, 17, 16], [21, 20, 15, 14, 9, 8, 4, 3, 2, 1, 0, 7, 6, 5, 13, 12, 11, 10, 19, 18, 17, 16], [22, 21, 20, 15, 14, 9, 8, 4, 3, 2, 1, 0, 7, 6, 5, 13, 12, 11, 10, 19, 18, 17, 16], [21, 20, 15, 14, 9, 8, 4, 3, 2, 1, 0, 7, 6, 5, 13, 12, 11, 10, 19, 18, 17, 16], [24, 21, 20, 15, 14, 9, 8, 4, 3, 2, 1, 0, 7, 6, 5, 13, 12, 11, 10, 19, 18, 17, 16], [23, 22, 21, 20, 15, 14, 9, 8, 4, 3, 2, 1, 0, 7, 6, 5, 13, 12, 11, 10, 19, 18, 17, 16, 25, 24], [26, 23, 22, 21, 20, 15, 14, 9, 8, 4, 3, 2, 1, 0, 7, 6, 5, 13, 12, 11, 10, 19, 18, 17, 16, 25, 24], [21, 20, 15, 14, 9, 8, 4, 3, 2, 1, 0, 7, 6, 5, 13, 12, 11, 10, 19, 18, 17, 16, 27, 26, 23, 22, 25, 24], [28, 21, 20, 15, 14, 9, 8, 4, 3, 2, 1, 0, 7, 6, 5, 13, 12, 11, 10, 19, 18, 17, 16, 27, 26, 23, 22, 25, 24], [29, 28, 21, 20, 15, 14, 9, 8, 4, 3, 2, 1, 0, 7, 6, 5, 13, 12, 11, 10, 19, 18, 17, 16, 27, 26, 23, 22, 25, 24], [30, 29, 28, 21, 20, 15, 14, 9, 8, 4, 3, 2, 1, 0, 7, 6, 5, 13, 12, 11, 10, 19, 18, 17, 16, 27, 26, 23, 22, 25, 24], [29, 28, 21, 20, 15, 14, 9, 8, 4, 3, 2, 1, 0, 7, 6, 5, 13, 12, 11, 10, 19, 18, 17, 16, 27, 26, 23, 22, 25, 24], [32, 29, 28, 21, 20, 15, 14, 9, 8, 4, 3, 2, 1, 0, 7, 6, 5, 13, 12, 11, 10, 19, 18, 17, 16, 27, 26, 23, 22, 25, 24], [33, 32, 29, 28, 21, 20, 15, 14, 9, 8, 4, 3, 2, 1, 0, 7, 6, 5, 13, 12, 11, 10, 19, 18, 17, 16, 27, 26, 23, 22, 25, 24], [31, 30, 29, 28, 21, 20, 15, 14, 9, 8, 4, 3, 2, 1, 0, 7, 6, 5, 13, 12, 11, 10, 19, 18, 17, 16, 27, 26, 23, 22, 25, 24, 34, 33, 32], [29, 28, 21, 20, 15, 14, 9, 8, 4, 3, 2, 1, 0, 7, 6, 5, 13, 12, 11, 10, 19, 18, 17, 16, 27, 26, 23, 22, 25, 24, 35, 31, 30, 34, 33, 32], [36, 29, 28, 21, 20, 15, 14, 9, 8, 4, 3, 2, 1, 0, 7, 6, 5, 13, 12, 11, 10, 19, 18, 17, 16, 27, 26, 23, 22, 25, 24, 35, 31, 30, 34, 33, 32], [37, 36, 29, 28, 21, 20, 15, 14, 9, 8, 4, 3, 2, 1, 0, 7, 6, 5, 13, 12, 11, 10, 19, 18, 17, 16, 27, 26, 23, 22, 25, 24, 35, 31, 30, 34, 33, 32], [38, 37, 36, 29, 28, 21, 20, 15, 14, 9, 8, 4, 3, 2, 1, 0, 7, 6, 5, 13, 12, 11, 10, 19, 18, 17, 16, 27, 26, 23, 22, 25, 24, 35, 31, 30, 34, 33, 32], [39, 38, 37, 36, 29, 28, 21, 20, 15, 14, 9, 8, 4, 3, 2, 1, 0, 7, 6, 5, 13, 12, 11, 10, 19, 18, 17, 16, 27, 26, 23, 22, 25, 24, 35, 31, 30, 34, 33, 32], [37, 36, 29, 28, 21, 20, 15, 14, 9, 8, 4, 3, 2, 1, 0, 7, 6, 5, 13, 12, 11, 10, 19, 18, 17, 16, 27, 26, 23, 22, 25, 24, 35, 31, 30, 34, 33, 32, 40, 39, 38], [41, 37, 36, 29, 28, 21, 20, 15, 14, 9, 8, 4, 3, 2, 1, 0, 7, 6, 5, 13, 12, 11, 10, 19, 18, 17, 16, 27, 26, 23, 22, 25, 24, 35, 31, 30, 34, 33, 32, 40, 39, 38], [42, 41, 37, 36, 29, 28, 21, 20, 15, 14, 9, 8, 4, 3, 2, 1, 0, 7, 6, 5, 13, 12, 11, 10, 19, 18, 17, 16, 27, 26, 23, 22, 25, 24, 35, 31, 30, 34, 33, 32, 40, 39, 38], [43, 42, 41, 37, 36, 29, 28, 21, 20, 15, 14, 9, 8, 4, 3, 2, 1, 0, 7, 6, 5, 13, 12, 11, 10, 19, 18, 17, 16, 27, 26, 23, 22, 25, 24, 35, 31, 30, 34, 33, 32, 40, 39, 38], [44, 43, 42, 41, 37, 36, 29, 28, 21, 20, 15, 14, 9, 8, 4, 3, 2, 1, 0, 7, 6, 5, 13, 12, 11, 10, 19, 18, 17, 16, 27, 26, 23, 22, 25, 24, 35, 31, 30, 34, 33, 32, 40, 39, 38], [42, 41, 37, 36, 29, 28, 21, 20, 15, 14, 9, 8, 4, 3, 2, 1, 0, 7, 6, 5, 13, 12, 11, 10, 19, 18, 17, 16, 27, 26, 23, 22, 25, 24, 35, 31, 30, 34, 33, 32, 40, 39, 38, 45, 44, 43]] [0, 1, 2, 3, 4, 5, 6, 7, 8, 9, 10, 11, 12, 13, 14, 15, 16, 17, 18, 19, 20, 21, 22, 23, 24, 25, 26, 27, 28, 29, 30, 31, 32, 33, 34, 35, 36, 37, 38, 39, 40, 41, 42, 43, 44, 45, 46])
    (.cond (.t 95)
     (.seq (.reg [
       ⟨(some 2), none, .f (.mv (.c (.bool false)))⟩])
     .ret)
     .skip))
    (.seq (.reg [
      ⟨(some 96), none, .f (.fadr 0 (.t 1))⟩,
      ⟨(some 97), none, .f (.ld (.t 96))⟩,
      ⟨(some 98), none, .f (.mv (.t 3))⟩,
      ⟨(some 99), none, .f (.slc 5 (.t 97) none (some (.t 98)) none)⟩,
      ⟨(some 100), none, .f (.len (.t 99))⟩,
      ⟨(some 101), none, .f (.mv (.c (.int .i64 0)))⟩])
    (.block 2 (.loop (.seq (.reg [
        ⟨(some 102), none, .f (.bin .lss (.t 101) (.t 100))⟩])
      (.seq (.cond (.t 102)
       .skip
       (.exit 2))
      (.seq (.block 3 (.seq (.reg [
         ⟨(some 103), none, .f (.iadr 5 (.t 99) (.t 101))⟩,
         ⟨(some 104), none, .f (.ldA 5 (.t 103))⟩,
         ⟨(some 6), none, .x (.zero 73 5 [(.int .i64 0), (.int .i64 0), (.int .i64 0), (.int .i64 0), (.int .i64 0)])⟩,
         ⟨none, none, .x (.st 5 (.t 6) (.t 104))⟩])
       (.seq (.reg [
         ⟨(some 105), none, .f (.fadr 0 (.t 6))⟩,
         ⟨(some 106), none, .f (.ld (.t 105))⟩,
         ⟨(some 107), none, .f (.fadr 0 (.t 4))⟩,
         ⟨(some 108), none, .f (.ld (.t 107))⟩,
         ⟨(some 109), none, .f (.bin .eql (.t 106) (.t 108))⟩,
         ⟨(some 110), none, .f (.mv (.t 109))⟩,
         ⟨(some 111), (some (110, false)), .f (.fadr 1 (.t 6))⟩,
         ⟨(some 112), (some (110, false)), .f (.ld (.t 111))⟩,
         ⟨(some 113), (some (110, false)), .f (.fadr 1 (.t 4))⟩,
         ⟨(some 114), (some (110, false)), .f (.ld (.t 113))⟩,
         ⟨(some 115), (some (110, false)), .f (.bin .eql (.t 112) (.t 114))⟩,
         ⟨(some 116), none, .f (.pick (.t 110) (.c (.bool true)) (.t 115))⟩])
       (.cond (.t 116)
        (.seq (.reg [
          ⟨(some 2), none, .f (.mv (.c (.bool false)))⟩])
        .ret)
        .skip))))
      (.reg [
        ⟨(some 117), none, .f (.bin .add (.t 101) (.c (.int .i64 1)))⟩,
        ⟨(some 101), none, .f (.mv (.t 117))⟩]))))))))))
   (.reg [
     ⟨(some 118), none, .f (.bin .add (.t 44) (.c (.int .i64 1)))⟩,
     ⟨(some 44), none, .f (.mv (.t 118))⟩])))))))
 (.seq (.seq (.reg [
   ⟨(some 119), none, .f (.fadr 1 (.t 1))⟩,
   ⟨(some 120), none, .f (.ld (.t 119))⟩,
   ⟨(some 121), none, .f (.len (.t 120))⟩,
   ⟨(some 122), none, .f (.mv (.c (.int .i64 0)))⟩])
 (.block 4 (.loop (.seq (.reg [
     ⟨(some 123), none, .f (.bin .lss (.t 122) (.t 121))⟩])
   (.seq (.cond (.t 123)
    .skip
    (.exit 4))
   (.seq (.block 5 (.seq (.reg [
      ⟨(some 124), none, .f (.iadr 5 (.t 120) (.t 122))⟩,
      ⟨(some 125), none, .f (.ldA 5 (.t 124))⟩,
      ⟨(some 8), none, .x (.zero 75 5 [(.int .i64 0), (.int .i64 0), (.int .i64 0), (.int .i64 0), (.int .i64 0)])⟩,
      ⟨none, none, .x (.st 5 (.t 8) (.t 125))⟩])
    (.seq (.seq (.reg [
      ⟨(some 126), none, .f (.ldA 5 (.t 8))⟩,
      ⟨(some 127), none, .x (.call 43 [(.t 126)])⟩,
      ⟨(some 128), none, .f (.un .not (.t 127))⟩,
      ⟨(some 129), none, .f (.mv (.t 128))⟩,
      ⟨(some 130), (some (129, false)), .f (.fadr 3 (.t 8))⟩,
      ⟨(some 131), (some (129, false)), .f (.ld (.t 130))⟩,
      ⟨(some 132), (some (129, false)), .f (.fadr 0 (.t 1))⟩,
      ⟨(some 133), (some (129, false)), .f (.ld (.t 132))⟩,
      ⟨(some 134), (some (129, false)), .f (.len (.t 133))⟩,
      ⟨(some 135), (some (129, false)), .f (.bin .geq (.t 131) (.t 134))⟩,
      ⟨(some 136), none, .f (.pick (.t 129) (.c (.bool true)) (.t 135))⟩])
    (.cond (.t 136)
     (.seq (.reg [
       ⟨(some 2), none, .f (.mv (.c (.bool false)))⟩])
     .ret)
     .skip))
    (.seq (.reg [
      ⟨(some 137), none, .f (.fadr 0 (.t 1))⟩,
      ⟨(some 138), none, .f (.ld (.t 137))⟩,
      ⟨(some 139), none, .f (.len (.t 138))⟩,
      ⟨(some 140), none, .f (.mv (.c (.int .i64 0)))⟩])
    (.block 6 (.loop (.seq (.reg [
        ⟨(some 141), none, .f (.bin .lss (.t 140) (.t 139))⟩])
      (.seq (.cond (.t 141)
       .skip
       (.exit 6))
      (.seq (.block 7 (.seq (.reg [
         ⟨(some 142), none, .f (.iadr 5 (.t 138) (.t 140))⟩,
         ⟨(some 143), none, .f (.ldA 5 (.t 142))⟩,
         ⟨(some 10), none, .x (.zero 73 5 [(.int .i64 0), (.int .i64 0), (.int .i64 0), (.int .i64 0), (.int .i64 0)])⟩,
         ⟨none, none, .x (.st 5 (.t 10) (.t 143))⟩])
       (.seq (.reg [
         ⟨(some 144), none, .f (.fadr 1 (.t 10))⟩,
         ⟨(some 145), none, .f (.ld (.t 144))⟩,
         ⟨(some 146), none, .f (.fadr 2 (.t 8))⟩,
         ⟨(some 147), none, .f (.ld (.t 146))⟩,
         ⟨(some 148), none, .f (.bin .eql (.t 145) (.t 147))⟩])
       (.cond (.t 148)
        (.seq (.reg [
          ⟨(some 2), none, .f (.mv (.c (.bool false)))⟩])
        .ret)
        .skip))))
      (.reg [
        ⟨(some 149), none, .f (.bin .add (.t 140) (.c (.int .i64 1)))⟩,
        ⟨(some 140), none, .f (.mv (.t 149))⟩]))))))))))
   (.reg [
     ⟨(some 150), none, .f (.bin .add (.t 122) (.c (.int .i64 1)))⟩,
     ⟨(some 122), none, .f (.mv (.t 150))⟩])))))))
 (.seq (.seq (.reg [
   ⟨(some 151), none, .f (.fadr 2 (.t 1))⟩,
   ⟨(some 152), none, .f (.ld (.t 151))⟩,
   ⟨(some 153), none, .f (.len (.t 152))⟩,
   ⟨(some 154), none, .f (.mv (.c (.int .i64 0)))⟩])
 (.block 8 (.loop (.seq (.reg [
     ⟨(some 155), none, .f (.bin .lss (.t 154) (.t 153))⟩])
   (.seq (.cond (.t 155)
    .skip
    (.exit 8))
   (.seq (.block 9 (.seq (.reg [
      ⟨(some 156), none, .f (.iadr 12 (.t 152) (.t 154))⟩,
      ⟨(some 157), none, .f (.ldA 12 (.t 156))⟩,
      ⟨(some 12), none, .x (.zero 80 12 [(.int .i64 0), (.int .i64 0), (.int .i64 0), (.int .i64 0), (.int .i64 0), (.int .i64 0), (.int .i64 0), (.int .i64 0), (.int .i64 0), (.int .i64 0), (.int .i64 0), (.int .i64 0)])⟩,
      ⟨none, none, .x (.st 12 (.t 12) (.t 157))⟩])
    (.seq (.reg [
      ⟨(some 158), none, .f (.ldA 12 (.t 12))⟩,
      ⟨(some 159), none, .x (.call 44 [(.t 158)])⟩,
      ⟨(some 160), none, .f (.un .not (.t 159))⟩])
    (.cond (.t 160)
     (.seq (.reg [
       ⟨(some 2), none, .f (.mv (.c (.bool false)))⟩])
     .ret)
     .skip))))
   (.reg [
     ⟨(some 161), none, .f (.bin .add (.t 154) (.c (.int .i64 1)))⟩,
     ⟨(some 154), none, .f (.mv (.t 161))⟩])))))))
 (.seq (.reg [
   ⟨(some 2), none, .f (.mv (.c (.bool true)))⟩])
 .ret))))))
theorem ok9 : fnComp Try.prog 9 = some (162, c9, [(.mv (.t 2))]) := by kernel_rfl

/-- loop.example/g00003/spec.l02AddrOK -/
def c29 : CC :=
 (.seq (.reg [
   ⟨(some 2), none, .f (.mv (.c (.bool false)))⟩])
 (.seq (.reg [
   ⟨(some 3), none, .f (.mv (.t 0))⟩,
   ⟨(some 4), none, .x (.call 50 [(.t 3), (.c (.int .i64 0)), (.c (.int .i64 4294967295))])⟩,
   ⟨(some 2), none, .f (.mv (.t 4))⟩])
 .ret))
theorem ok29 : fnComp Try.prog 29 = some (5, c29, [(.mv (.t 2))]) := by kernel_rfl

/-- loop.example/g00003/spec.l18LinkOK -/
def c30 : CC :=
 (.seq (.reg [
   ⟨(some 1), none, .x (.box 73 5 (.t 0))⟩,
   ⟨(some 2), none, .f (.mv (.c (.bool false)))⟩])
 (.seq (.dreg [
   ⟨(some 3), none, .f (.fadr 0 (.t 1))⟩,
   ⟨(some 4), none, .f (.ld (.t 3))⟩,
   ⟨(some 5), none, .x (.call 50 [(.t 4), (.c (.int .i64 0)), (.c (.int .i64 281474976710654))])⟩,
   ⟨(some 6), none, .f (.mv (.t 5))⟩,
   ⟨(some 7), (some (6, true)), .f (.fadr 2 (.t 1))⟩,
   ⟨(some 8), (some (6, true)), .f (.ldA 2 (.t 7))⟩,
   ⟨(some 9), (some (6, true)), .x (.call 81 [(.t 8)])⟩,
   ⟨(some 10), none, .f (.pick (.t 6) (.t 9) (.c (.bool false)))⟩,
   ⟨(some 11), none, .f (.mv (.t 10))⟩,
   ⟨(some 12), (some (11, true)), .f (.fadr 1 (.t 1))⟩,
   ⟨(some 13), (some (11, true)), .f (.ld (.t 12))⟩,
   ⟨(some 14), (some (11, true)), .x (.call 82 [(.t 13)])⟩,
   ⟨(some 15), (some (11, true)), .f (.bin .eql (.t 14) (.c (.int .i64 6)))⟩,
   ⟨(some 16), none, .f (.pick (.t 11) (.t 15) (.c (.bool false)))⟩,
   ⟨(some 17), none, .f (.mv (.t 16))⟩,
   ⟨(some 18), (some (17, true)), .f (.fadr 2 (.t 1))⟩,
   ⟨(some 19), (some (17, true)), .f (.ldA 2 (.t 18))⟩,
   ⟨(some 20), (some (17, true)), .f (.fadr 1 (.t 1))⟩,
   ⟨(some 21), (some (17, true)), .f (.ld (.t 20))⟩,
   ⟨(some 22), (some (17, true)), .x (.call 83 [(.t 19), (.t 21)])⟩,
   ⟨(some 23), none, .f (.pick (.t 17) (.t 22) (.c (.bool false)))⟩,
   ⟨(some 24), none, .f (.mv (.t 23))⟩,
   ⟨(some 25), (some (24, true)), .f (.fadr 1 (.t 1))⟩,
   ⟨(some 26), (some (24, true)), .f (.ld (.t 25))⟩,
   ⟨(some 27), (some (24, true)), .f (.fadr 2 (.t 1))⟩,
   ⟨(some 28), (some (24, true)), .f (.ldA 2 (.t 27))⟩,
   ⟨(some 29), (some (24, true)), .x (.call 84 [(.t 28)])⟩,
   ⟨(some 30), (some (24, true)), .f (.bin .neq (.t 26) (.t 29))⟩,
   ⟨(some 31), none, .f (.pick (.t 24) (.t 30) (.c (.bool false)))⟩,
   ⟨(some 32), none, .f (.mv (.t 31))⟩,
   ⟨(some 33), (some (32, true)), .f (.fadr 4 (.t 1))⟩,
   ⟨(some 34), (some (32, true)), .f (.ld (.t 33))⟩,
   ⟨(some 35), (some (32, true)), .x (.call 50 [(.t 34), (.c (.int .i64 128)), (.c (.int .i64 1500))])⟩,
   ⟨(some 36), none, .f (.pick (.t 32) (.t 35) (.c (.bool false)))⟩,
   ⟨(some 2), none, .f (.mv (.t 36))⟩]
   [false, false, true, false, false, false, true, false, false, false, false, true, false, false, false, false, false, false, false, true, false, false, false, false, false, false, true, false, false, false, false, false, true, false, false] [[], [0], [1, 0], [2, 1, 0], [3, 2, 1, 0], [4, 3, 2, 1, 0], [5, 4, 3, 2, 1, 0], [3, 2, 1, 0, 6, 5, 4], [7, 3, 2, 1, 0, 6, 5, 4], [8, 7, 3, 2, 1, 0, 6, 5, 4], [9, 8, 7, 3, 2, 1, 0, 6, 5, 4], [10, 9, 8, 7, 3, 2, 1, 0, 6, 5, 4], [11, 10, 9, 8, 7, 3, 2, 1, 0, 6, 5, 4], [8, 7, 3, 2, 1, 0, 6, 5, 4, 12, 11, 10, 9], [13, 8, 7, 3, 2, 1, 0, 6, 5, 4, 12, 11, 10, 9], [14, 13, 8, 7, 3, 2, 1, 0, 6, 5, 4, 12, 11, 10, 9], [15, 14, 13, 8, 7, 3, 2, 1, 0, 6, 5, 4, 12, 11, 10, 9], [14, 13, 8, 7, 3, 2, 1, 0, 6, 5, 4, 12, 11, 10, 9], [17, 14, 13, 8, 7, 3, 2, 1, 0, 6, 5, 4, 12, 11, 10, 9], [16, 15, 14, 13, 8, 7, 3, 2, 1, 0, 6, 5, 4, 12, 11, 10, 9, 18, 17], [14, 13, 8, 7, 3, 2, 1, 0, 6, 5, 4, 12, 11, 10, 9, 19, 16, 15, 18, 17], [20, 14, 13, 8, 7, 3, 2, 1, 0, 6, 5, 4, 12, 11, 10, 9, 19, 16, 15, 18, 17], [21, 20, 14, 13, 8, 7, 3, 2, 1, 0, 6, 5, 4, 12, 11, 10, 9, 19, 16, 15, 18, 17], [22, 21, 20, 14, 13, 8, 7, 3, 2, 1, 0, 6, 5, 4, 12, 11, 10, 9, 19, 16, 15, 18, 17], [21, 20, 14, 13, 8, 7, 3, 2, 1, 0, 6, 5, 4, 12, 11, 10, 9, 19, 16, 15, 18, 17], [24, 21, 20, 14, 13, 8, 7, 3, 2, 1, 0, 6, 5, 4, 12, 11, 10, 9, 19, 16, 15, 18, 17], [25, 24, 21, 20, 14, 13, 8, 7, 3, 2, 1, 0, 6, 5, 4, 12, 11, 10, 9, 19, 16, 15, 18, 17], [23, 22, 21, 20, 14, 13, 8, 7, 3, 2, 1, 0, 6, 5, 4, 12, 11, 10, 9, 19, 16, 15, 18, 17, 26, 25, 24], [21, 20, 14, 13, 8, 7, 3, 2, 1, 0, 6, 5, 4, 12, 11, 10, 9, 19, 16, 15, 18, 17, 27, 23, 22, 26, 25, 24], [28, 21, 20, 14, 13, 8, 7, 3, 2, 1, 0, 6, 5, 4, 12, 11, 10, 9, 19, 16, 15, 18, 17, 27, 23, 22, 26, 25, 24], [29, 28, 21, 20, 14, 13, 8, 7, 3, 2, 1, 0, 6, 5, 4, 12, 11, 10, 9, 19, 16, 15, 18, 17, 27, 23, 22, 26, 25, 24], [30, 29, 28, 21, 20, 14, 13, 8, 7, 3, 2, 1, 0, 6, 5, 4, 12, 11, 10, 9, 19, 16, 15, 18, 17, 27, 23, 22, 26, 25, 24], [31, 30, 29, 28, 21, 20, 14, 13, 8, 7, 3, 2, 1, 0, 6, 5, 4, 12, 11, 10, 9, 19, 16, 15, 18, 17, 27, 23, 22, 26, 25, 24], [29, 28, 21, 20, 14, 13, 8, 7, 3, 2, 1, 0, 6, 5, 4, 12, 11, 10, 9, 19, 16, 15, 18, 17, 27, 23, 22, 26, 25, 24, 32, 31, 30], [33, 29, 28, 21, 20, 14, 13, 8, 7, 3, 2, 1, 0, 6, 5, 4, 12, 11, 10, 9, 19, 16, 15, 18, 17, 27, 23, 22, 26, 25, 24, 32, 31, 30]] [0, 1, 2, 3, 4, 5, 6, 7, 8, 9, 10, 11, 12, 13, 14, 15, 16, 17, 18, 19, 20, 21, 22, 23, 24, 25, 26, 27, 28, 29, 30, 31, 32, 33, 34])
 .ret))
theorem ok30 : fnComp Try.prog 30 = some (37, c30, [(.mv (.t 2))]) := by kernel_rfl

/-- loop.example/g00003/spec.l08OK -/
def c31 : CC :=
 (.seq (.reg [
   ⟨(some 1), none, .x (.box 75 5 (.t 0))⟩,
   ⟨(some 2), none, .f (.mv (.c (.bool false)))⟩])
 (.seq (.reg [
   ⟨(some 3), none, .f (.fadr 0 (.t 1))⟩,
   ⟨(some 4), none, .f (.ldA 2 (.t 3))⟩,
   ⟨(some 5), none, .x (.call 81 [(.t 4)])⟩,
   ⟨(some 6), none, .f (.mv (.t 5))⟩,
   ⟨(some 7), (some (6, true)), .f (.fadr 2 (.t 1))⟩,
   ⟨(some 8), (some (6, true)), .f (.ld (.t 7))⟩,
   ⟨(some 9), (some (6, true)), .f (.bin .eql (.t 8) (.c (.int .i64 0)))⟩,
   ⟨(some 10), (some (6, true)), .f (.mv (.t 9))⟩,
   ⟨(some 11), (some (10, false)), .f (.fadr 2 (.t 1))⟩,
   ⟨(some 12), (some (10, false)), .f (.ld (.t 11))⟩,
   ⟨(some 13), (some (10, false)), .x (.call 82 [(.t 12)])⟩,
   ⟨(some 14), (some (10, false)), .f (.bin .eql (.t 13) (.c (.int .i64 6)))⟩,
   ⟨(some 15), (some (6, true)), .f (.pick (.t 10) (.c (.bool true)) (.t 14))⟩,
   ⟨(some 16), none, .f (.pick (.t 6) (.t 15) (.c (.bool false)))⟩,
   ⟨(some 17), none, .f (.mv (.t 16))⟩,
   ⟨(some 18), (some (17, true)), .f (.fadr 3 (.t 1))⟩,
   ⟨(some 19), (some (17, true)), .f (.ld (.t 18))⟩,
   ⟨(some 20), (some (17, true)), .x (.call 50 [(.t 19), (.c (.int .i64 0)), (.c (.int .i64 7))])⟩,
   ⟨(some 21), none, .f (.pick (.t 17) (.t 20) (.c (.bool false)))⟩,
   ⟨(some 22), none, .f (.mv (.t 21))⟩,
   ⟨(some 23), (some (22, true)), .f (.fadr 4 (.t 1))⟩,
   ⟨(some 24), (some (22, true)), .f (.ld (.t 23))⟩,
   ⟨(some 25), (some (22, true)), .x (.call 50 [(.t 24), (.c (.int .i64 0)), (.c (.int .i64 1000000))])⟩,
   ⟨(some 26), none, .f (.pick (.t 22) (.t 25) (.c (.bool false)))⟩,
   ⟨(some 2), none, .f (.mv (.t 26))⟩])
 .ret))
theorem ok31 : fnComp Try.prog 31 = some (27, c31, [(.mv (.t 2))]) := by kernel_rfl

/-- loop.example/g00003/spec.l18Own -/
def c32 : CC :=
 (.seq (.reg [
   ⟨(some 2), none, .x (.box 33 6 (.t 0))⟩,
   ⟨(some 4), none, .f (.mv (.c (.bool false)))⟩])
 (.seq (.seq (.reg [
   ⟨(some 5), none, .f (.mv (.c (.int .i64 0)))⟩])
 (.block 0 (.loop (.seq (.seq (.reg [
     ⟨(some 6), none, .f (.mv (.t 5))⟩,
     ⟨(some 7), none, .f (.fadr 0 (.t 2))⟩,
     ⟨(some 8), none, .f (.ld (.t 7))⟩,
     ⟨(some 9), none, .f (.len (.t 8))⟩,
     ⟨(some 10), none, .f (.bin .lss (.t 6) (.t 9))⟩])
   (.cond (.t 10)
    .skip
    (.exit 0)))
   (.seq (.block 1 (.seq (.reg [
      ⟨(some 13), none, .f (.fadr 0 (.t 2))⟩,
      ⟨(some 14), none, .f (.ld (.t 13))⟩,
      ⟨(some 15), none, .f (.mv (.t 5))⟩,
      ⟨(some 16), none, .f (.iadr 5 (.t 14) (.t 15))⟩,
      ⟨(some 17), none, .f (.fadr 1 (.t 16))⟩,
      ⟨(some 18), none, .f (.ld (.t 17))⟩,
      ⟨(some 19), none, .f (.mv (.t 1))⟩,
      ⟨(some 20), none, .f (.bin .eql (.t 18) (.t 19))⟩])
    (.cond (.t 20)
     (.seq (.reg [
       ⟨(some 4), none, .f (.mv (.c (.bool true)))⟩])
     .ret)
     .skip)))
   (.reg [
     ⟨(some 11), none, .f (.mv (.t 5))⟩,
     ⟨(some 12), none, .f (.bin .add (.t 11) (.c (.int .i64 1)))⟩,
     ⟨(some 5), none, .f (.mv (.t 12))⟩]))))))
 (.seq (.reg [
   ⟨(some 4), none, .f (.mv (.c (.bool false)))⟩])
 .ret)))
theorem ok32 : fnComp Try.prog 32 = some (21, c32, [(.mv (.t 4))]) := by kernel_rfl

/-- loop.example/g00003/spec.l09OK -/
def c33 : CC :=
 (.seq (.reg [
   ⟨(some 1), none, .x (.box 80 12 (.t 0))⟩,
   ⟨(some 2), none, .f (.mv (.c (.bool false)))⟩])
 (.seq (.seq (.reg [
   ⟨(some 3), none, .f (.fadr 0 (.t 1))⟩,
   ⟨(some 4), none, .f (.ld (.t 3))⟩,
   ⟨(some 5), none, .x (.call 50 [(.t 4), (.c (.int .i64 1)), (.c (.int .i64 3))])⟩,
   ⟨(some 6), none, .f (.un .not (.t 5))⟩,
   ⟨(some 7), none, .f (.mv (.t 6))⟩,
   ⟨(some 8), (some (7, false)), .f (.fadr 1 (.t 1))⟩,
   ⟨(some 9), (some (7, false)), .f (.ld (.t 8))⟩,
   ⟨(some 10), (some (7, false)), .x (.call 50 [(.t 9), (.c (.int .i64 1)), (.c (.int .i64 3))])⟩,
   ⟨(some 11), (some (7, false)), .f (.un .not (.t 10))⟩,
   ⟨(some 12), none, .f (.pick (.t 7) (.c (.bool true)) (.t 11))⟩,
   ⟨(some 13), none, .f (.mv (.t 12))⟩,
   ⟨(some 14), (some (13, false)), .f (.fadr 11 (.t 1))⟩,
   ⟨(some 15), (some (13, false)), .f (.ld (.t 14))⟩,
   ⟨(some 16), (some (13, false)), .x (.call 50 [(.t 15), (.c (.int .i64 0)), (.c (.int .i64 4))])⟩,
   ⟨(some 17), (some (13, false)), .f (.un .not (.t 16))⟩,
   ⟨(some 18), none, .f (.pick (.t 13) (.c (.bool true)) (.t 17))⟩,
   ⟨(some 19), none, .f (.mv (.t 18))⟩,
   ⟨(some 20), (some (19, false)), .f (.fadr 3 (.t 1))⟩,
   ⟨(some 21), (some (19, false)), .f (.ldA 2 (.t 20))⟩,
   ⟨(some 22), (some (19, false)), .x (.call 81 [(.t 21)])⟩,
   ⟨(some 23), (some (19, false)), .f (.un .not (.t 22))⟩,
   ⟨(some 24), none, .f (.pick (.t 19) (.c (.bool true)) (.t 23))⟩,
   ⟨(some 25), none, .f (.mv (.t 24))⟩,
   ⟨(some 26), (some (25, false)), .f (.fadr 7 (.t 1))⟩,
   ⟨(some 27), (some (25, false)), .f (.ldA 2 (.t 26))⟩,
   ⟨(some 28), (some (25, false)), .x (.call 81 [(.t 27)])⟩,
   ⟨(some 29), (some (25, false)), .f (.un .not (.t 28))⟩,
   ⟨(some 30), none, .f (.pick (.t 25) (.c (.bool true)) (.t 29))⟩,
   ⟨(some 31), none, .f (.mv (.t 30))⟩,
   ⟨(some 32), (some (31, false)), .f (.fadr 5 (.t 1))⟩,
   ⟨(some 33), (some (31, false)), .f (.ld (.t 32))⟩,
   ⟨(some 34), (some (31, false)), .f (.fadr 6 (.t 1))⟩,
   ⟨(some 35), (some (31, false)), .f (.ld (.t 34))⟩,
   ⟨(some 36), (some (31, false)), .x (.call 85 [(.t 33), (.t 35)])⟩,
   ⟨(some 37), (some (31, false)), .f (.un .not (.t 36))⟩,
   ⟨(some 38), none, .f (.pick (.t 31) (.c (.bool true)) (.t 37))⟩,
   ⟨(some 39), none, .f (.mv (.t 38))⟩,
   ⟨(some 40), (some (39, false)), .f (.fadr 9 (.t 1))⟩,
   ⟨(some 41), (some (39, false)), .f (.ld (.t 40))⟩,
   ⟨(some 42), (some (39, false)), .f (.fadr 10 (.t 1))⟩,
   ⟨(some 43), (some (39, false)), .f (.ld (.t 42))⟩,
   ⟨(some 44), (some (39, false)), .x (.call 85 [(.t 41), (.t 43)])⟩,
   ⟨(some 45), (some (39, false)), .f (.un .not (.t 44))⟩,
   ⟨(some 46), none, .f (.pick (.t 39) (.c (.bool true)) (.t 45))⟩])
 (.cond (.t 46)
  (.seq (.reg [
    ⟨(some 2), none, .f (.mv (.c (.bool false)))⟩])
  .ret)
  .skip))
 (.seq (.seq (.reg [
   ⟨(some 47), none, .f (.fadr 2 (.t 1))⟩,
   ⟨(some 48), none, .f (.ld (.t 47))⟩])
 (.block 0 (.seq (.seq (.reg [
    ⟨(some 50), none, .f (.bin .eql (.t 48) (.c (.int .i64 6)))⟩,
    ⟨(some 49), none, .f (.mv (.t 50))⟩])
  (.cond (.t 49)
   .skip
   (.reg [
     ⟨(some 51), none, .f (.bin .eql (.t 48) (.c (.int .i64 17)))⟩,
     ⟨(some 49), none, .f (.mv (.t 51))⟩])))
  (.cond (.t 49)
   (.seq (.reg [
     ⟨(some 2), none, .f (.mv (.c (.bool true)))⟩])
   .ret)
   (.seq (.seq (.reg [
     ⟨(some 53), none, .f (.bin .eql (.t 48) (.c (.int .i64 0)))⟩,
     ⟨(some 52), none, .f (.mv (.t 53))⟩])
   (.cond (.t 52)
    .skip
    (.reg [
      ⟨(some 54), none, .f (.bin .eql (.t 48) (.c (.int .i64 1)))⟩,
      ⟨(some 52), none, .f (.mv (.t 54))⟩])))
   (.cond (.t 52)
    (.seq (.reg [
      ⟨(some 55), none, .f (.fadr 5 (.t 1))⟩,
      ⟨(some 56), none, .f (.ld (.t 55))⟩,
      ⟨(some 57), none, .f (.fadr 6 (.t 1))⟩,
      ⟨(some 58), none, .f (.ld (.t 57))⟩,
      ⟨(some 59), none, .x (.call 86 [(.t 56), (.t 58)])⟩,
      ⟨(some 60), none, .f (.mv (.t 59))⟩,
      ⟨(some 61), (some (60, true)), .f (.fadr 9 (.t 1))⟩,
      ⟨(some 62), (some (60, true)), .f (.ld (.t 61))⟩,
      ⟨(some 63), (some (60, true)), .f (.fadr 10 (.t 1))⟩,
      ⟨(some 64), (some (60, true)), .f (.ld (.t 63))⟩,
      ⟨(some 65), (some (60, true)), .x (.call 86 [(.t 62), (.t 64)])⟩,
      ⟨(some 66), none, .f (.pick (.t 60) (.t 65) (.c (.bool false)))⟩,
      ⟨(some 2), none, .f (.mv (.t 66))⟩])
    .ret)
    .skip))))))
 (.seq (.reg [
   ⟨(some 2), none, .f (.mv (.c (.bool false)))⟩])
 .ret))))
theorem ok33 : fnComp Try.prog 33 = some (67, c33, [(.mv (.t 2))]) := by kernel_rfl

/-- loop.example/g00003/impl.isAddr -/
def c37 : CC :=
 (.seq (.reg [
   ⟨(some 2), none, .f (.mv (.c (.bool false)))⟩])
 (.seq (.reg [
   ⟨(some 3), none, .f (.mv (.t 0))⟩,
   ⟨(some 4), none, .f (.bin .geq (.t 3) (.c (.int .i64 0)))⟩,
   ⟨(some 5), none, .f (.mv (.t 4))⟩,
   ⟨(some 6), (some (5, true)), .f (.mv (.t 0))⟩,
   ⟨(some 7), (some (5, true)), .f (.bin .leq (.t 6) (.c (.int .i64 4294967295)))⟩,
   ⟨(some 8), none, .f (.pick (.t 5) (.t 7) (.c (.bool false)))⟩,
   ⟨(some 2), none, .f (.mv (.t 8))⟩])
 .ret))
theorem ok37 : fnComp Try.prog 37 = some (9, c37, [(.mv (.t 2))]) := by kernel_rfl

/-- loop.example/g00003/impl.isMac -/
def c38 : CC :=
 (.seq (.reg [
   ⟨(some 2), none, .f (.mv (.c (.bool false)))⟩])
 (.seq (.reg [
   ⟨(some 3), none, .f (.mv (.t 0))⟩,
   ⟨(some 4), none, .f (.bin .geq (.t 3) (.c (.int .i64 0)))⟩,
   ⟨(some 5), none, .f (.mv (.t 4))⟩,
   ⟨(some 6), (some (5, true)), .f (.mv (.t 0))⟩,
   ⟨(some 7), (some (5, true)), .f (.bin .leq (.t 6) (.c (.int .i64 281474976710655)))⟩,
   ⟨(some 8), none, .f (.pick (.t 5) (.t 7) (.c (.bool false)))⟩,
   ⟨(some 2), none, .f (.mv (.t 8))⟩])
 .ret))
theorem ok38 : fnComp Try.prog 38 = some (9, c38, [(.mv (.t 2))]) := by kernel_rfl

/-- loop.example/g00003/impl.okPrefix -/
def c39 : CC :=
 (.seq (.reg [
   ⟨(some 1), none, .x (.box 71 2 (.t 0))⟩,
   ⟨(some 2), none, .f (.mv (.c (.bool false)))⟩])
 (.seq (.dreg [
   ⟨(some 3), none, .f (.fadr 0 (.t 1))⟩,
   ⟨(some 4), none, .f (.ld (.t 3))⟩,
   ⟨(some 5), none, .x (.call 37 [(.t 4)])⟩,
   ⟨(some 6), none, .f (.mv (.t 5))⟩,
   ⟨(some 7), (some (6, true)), .f (.fadr 1 (.t 1))⟩,
   ⟨(some 8), (some (6, true)), .f (.ld (.t 7))⟩,
   ⟨(some 9), (some (6, true)), .f (.bin .geq (.t 8) (.c (.int .i64 0)))⟩,
   ⟨(some 10), none, .f (.pick (.t 6) (.t 9) (.c (.bool false)))⟩,
   ⟨(some 11), none, .f (.mv (.t 10))⟩,
   ⟨(some 12), (some (11, true)), .f (.fadr 1 (.t 1))⟩,
   ⟨(some 13), (some (11, true)), .f (.ld (.t 12))⟩,
   ⟨(some 14), (some (11, true)), .f (.bin .leq (.t 13) (.c (.int .i64 32)))⟩,
   ⟨(some 15), none, .f (.pick (.t 11) (.t 14) (.c (.bool false)))⟩,
   ⟨(some 16), none, .f (.mv (.t 15))⟩,
   ⟨(some 17), (some (16, true)), .f (.fadr 0 (.t 1))⟩,
   ⟨(some 18), (some (16, true)), .f (.ld (.t 17))⟩,
   ⟨(some 19), (some (16, true)), .f (.fadr 1 (.t 1))⟩,
   ⟨(some 20), (some (16, true)), .f (.ld (.t 19))⟩,
   ⟨(some 21), (some (16, true)), .x (.call 90 [(.t 20)])⟩,
   ⟨(some 22), (some (16, true)), .f (.bin .and (.t 18) (.t 21))⟩,
   ⟨(some 23), (some (16, true)), .f (.fadr 0 (.t 1))⟩,
   ⟨(some 24), (some (16, true)), .f (.ld (.t 23))⟩,
   ⟨(some 25), (some (16, true)), .f (.bin .eql (.t 22) (.t 24))⟩,
   ⟨(some 26), none, .f (.pick (.t 16) (.t 25) (.c (.bool false)))⟩,
   ⟨(some 2), none, .f (.mv (.t 26))⟩]
   [false, false, true, false, false, false, false, false, false, false, false, false, false, false, false, false, false, false, true, false, false, false, false, false, false] [[], [0], [1, 0], [2, 1, 0], [3, 2, 1, 0], [4, 3, 2, 1, 0], [5, 4, 3, 2, 1, 0], [3, 2, 1, 0, 6, 5, 4], [7, 3, 2, 1, 0, 6, 5, 4], [8, 7, 3, 2, 1, 0, 6, 5, 4], [9, 8, 7, 3, 2, 1, 0, 6, 5, 4], [10, 9, 8, 7, 3, 2, 1, 0, 6, 5, 4], [8, 7, 3, 2, 1, 0, 6, 5, 4, 11, 10, 9], [12, 8, 7, 3, 2, 1, 0, 6, 5, 4, 11, 10, 9], [13, 12, 8, 7, 3, 2, 1, 0, 6, 5, 4, 11, 10, 9], [14, 13, 12, 8, 7, 3, 2, 1, 0, 6, 5, 4, 11, 10, 9], [13, 12, 8, 7, 3, 2, 1, 0, 6, 5, 4, 11, 10, 9], [16, 13, 12, 8, 7, 3, 2, 1, 0, 6, 5, 4, 11, 10, 9], [17, 16, 13, 12, 8, 7, 3, 2, 1, 0, 6, 5, 4, 11, 10, 9], [15, 14, 13, 12, 8, 7, 3, 2, 1, 0, 6, 5, 4, 11, 10, 9, 18, 17, 16], [13, 12, 8, 7, 3, 2, 1, 0, 6, 5, 4, 11, 10, 9], [20, 13, 12, 8, 7, 3, 2, 1, 0, 6, 5, 4, 11, 10, 9], [19, 15, 14, 13, 12, 8, 7, 3, 2, 1, 0, 6, 5, 4, 11, 10, 9, 18, 17, 16, 21, 20], [13, 12, 8, 7, 3, 2, 1, 0, 6, 5, 4, 11, 10, 9, 22, 19, 15, 14, 18, 17, 16, 21, 20], [23, 13, 12, 8, 7, 3, 2, 1, 0, 6, 5, 4, 11, 10, 9, 22, 19, 15, 14, 18, 17, 16, 21, 20]] [0, 1, 2, 3, 4, 5, 6, 7, 8, 9, 10, 11, 12, 13, 14, 15, 16, 17, 20, 21, 18, 19, 22, 23, 24])
 .ret))
theorem ok39 : fnComp Try.prog 39 = some (27, c39, [(.mv (.t 2))]) := by kernel_rfl

/-- loop.example/g00003/impl.AddrKind -/
def c40 : CC :=
 (.seq (.reg [
   ⟨(some 2), none, .f (.mv (.c (.int .i64 0)))⟩])
 (.seq (.block 0 (.seq (.reg [
    ⟨(some 4), none, .f (.mv (.t 0))⟩,
    ⟨(some 5), none, .x (.call 37 [(.t 4)])⟩,
    ⟨(some 6), none, .f (.un .not (.t 5))⟩,
    ⟨(some 3), none, .f (.mv (.t 6))⟩])
  (.cond (.t 3)
   (.seq (.reg [
     ⟨(some 2), none, .f (.mv (.c (.int .i64 0)))⟩])
   .ret)
   (.seq (.reg [
     ⟨(some 8), none, .f (.mv (.t 0))⟩,
     ⟨(some 9), none, .f (.bin .eql (.t 8) (.c (.int .i64 0)))⟩,
     ⟨(some 7), none, .f (.mv (.t 9))⟩])
   (.cond (.t 7)
    (.seq (.reg [
      ⟨(some 2), none, .f (.mv (.c (.int .i64 1)))⟩])
    .ret)
    (.seq (.reg [
      ⟨(some 11), none, .f (.mv (.t 0))⟩,
      ⟨(some 12), none, .f (.bin .shr (.t 11) (.c (.int .u64 24)))⟩,
      ⟨(some 13), none, .f (.bin .eql (.t 12) (.c (.int .i64 127)))⟩,
      ⟨(some 10), none, .f (.mv (.t 13))⟩])
    (.cond (.t 10)
     (.seq (.reg [
       ⟨(some 2), none, .f (.mv (.c (.int .i64 2)))⟩])
     .ret)
     (.seq (.reg [
       ⟨(some 15), none, .f (.mv (.t 0))⟩,
       ⟨(some 16), none, .f (.bin .shr (.t 15) (.c (.int .u64 28)))⟩,
       ⟨(some 17), none, .f (.bin .eql (.t 16) (.c (.int .i64 14)))⟩,
       ⟨(some 14), none, .f (.mv (.t 17))⟩])
     (.cond (.t 14)
      (.seq (.reg [
        ⟨(some 2), none, .f (.mv (.c (.int .i64 3)))⟩])
      .ret)
      (.seq (.reg [
        ⟨(some 19), none, .f (.mv (.t 0))⟩,
        ⟨(some 20), none, .f (.bin .eql (.t 19) (.c (.int .i64 4294967295)))⟩,
        ⟨(some 18), none, .f (.mv (.t 20))⟩])
      (.cond (.t 18)
       (.seq (.reg [
         ⟨(some 2), none, .f (.mv (.c (.int .i64 4)))⟩])
       .ret)
       (.seq (.reg [
         ⟨(some 22), none, .f (.mv (.t 0))⟩,
         ⟨(some 23), none, .f (.bin .shr (.t 22) (.c (.int .u64 28)))⟩,
         ⟨(some 24), none, .f (.bin .eql (.t 23) (.c (.int .i64 15)))⟩,
         ⟨(some 21), none, .f (.mv (.t 24))⟩])
       (.cond (.t 21)
        (.seq (.reg [
          ⟨(some 2), none, .f (.mv (.c (.int .i64 5)))⟩])
        .ret)
        .skip)))))))))))))
 (.seq (.reg [
   ⟨(some 2), none, .f (.mv (.c (.int .i64 6)))⟩])
 .ret)))
theorem ok40 : fnComp Try.prog 40 = some (25, c40, [(.mv (.t 2))]) := by kernel_rfl

/-- loop.example/g00003/impl.PrefixHas -/
def c41 : CC :=
 (.seq (.reg [
   ⟨(some 2), none, .x (.box 71 2 (.t 0))⟩,
   ⟨(some 4), none, .f (.mv (.c (.bool false)))⟩])
 (.seq (.dreg [
   ⟨(some 5), none, .f (.ldA 2 (.t 2))⟩,
   ⟨(some 6), none, .x (.call 39 [(.t 5)])⟩,
   ⟨(some 7), none, .f (.mv (.t 6))⟩,
   ⟨(some 8), (some (7, true)), .f (.mv (.t 1))⟩,
   ⟨(some 9), (some (7, true)), .x (.call 37 [(.t 8)])⟩,
   ⟨(some 10), none, .f (.pick (.t 7) (.t 9) (.c (.bool false)))⟩,
   ⟨(some 11), none, .f (.mv (.t 10))⟩,
   ⟨(some 12), (some (11, true)), .f (.mv (.t 1))⟩,
   ⟨(some 13), (some (11, true)), .f (.fadr 1 (.t 2))⟩,
   ⟨(some 14), (some (11, true)), .f (.ld (.t 13))⟩,
   ⟨(some 15), (some (11, true)), .x (.call 90 [(.t 14)])⟩,
   ⟨(some 16), (some (11, true)), .f (.bin .and (.t 12) (.t 15))⟩,
   ⟨(some 17), (some (11, true)), .f (.fadr 0 (.t 2))⟩,
   ⟨(some 18), (some (11, true)), .f (.ld (.t 17))⟩,
   ⟨(some 19), (some (11, true)), .f (.bin .eql (.t 16) (.t 18))⟩,
   ⟨(some 20), none, .f (.pick (.t 11) (.t 19) (.c (.bool false)))⟩,
   ⟨(some 4), none, .f (.mv (.t 20))⟩]
   [false, true, false, false, true, false, false, false, false, false, true, false, false, false, false, false, false] [[], [0], [1, 0], [2, 1, 0], [3, 2, 1, 0], [2, 1, 0, 4, 3], [5, 2, 1, 0, 4, 3], [6, 5, 2, 1, 0, 4, 3], [6, 5, 2, 1, 0, 4, 3], [8, 6, 5, 2, 1, 0, 4, 3], [9, 8, 6, 5, 2, 1, 0, 4, 3], [7, 6, 5, 2, 1, 0, 4, 3, 10, 9, 8], [6, 5, 2, 1, 0, 4, 3], [12, 6, 5, 2, 1, 0, 4, 3], [11, 7, 6, 5, 2, 1, 0, 4, 3, 10, 9, 8, 13, 12], [6, 5, 2, 1, 0, 4, 3, 14, 11, 7, 10, 9, 8, 13, 12], [15, 6, 5, 2, 1, 0, 4, 3, 14, 11, 7, 10, 9, 8, 13, 12]] [0, 1, 2, 3, 4, 5, 6, 7, 8, 9, 12, 13, 10, 11, 14, 15, 16])
 .ret))
theorem ok41 : fnComp Try.prog 41 = some (21, c41, [(.mv (.t 4))]) := by kernel_rfl

/-- loop.example/g00003/impl.Broadcast -/
def c42 : CC :=
 (.seq (.reg [
   ⟨(some 1), none, .x (.box 71 2 (.t 0))⟩,
   ⟨(some 2), none, .f (.mv (.c (.int .i64 0)))⟩])
 (.seq (.seq (.reg [
   ⟨(some 3), none, .f (.ldA 2 (.t 1))⟩,
   ⟨(some 4), none, .x (.call 39 [(.t 3)])⟩,
   ⟨(some 5), none, .f (.un .not (.t 4))⟩])
 (.cond (.t 5)
  (.seq (.reg [
    ⟨(some 2), none, .f (.mv (.c (.int .i64 (-1))))⟩])
  .ret)
  .skip))
 (.seq (.dreg [
   ⟨(some 6), none, .f (.fadr 0 (.t 1))⟩,
   ⟨(some 7), none, .f (.ld (.t 6))⟩,
   ⟨(some 8), none, .f (.fadr 1 (.t 1))⟩,
   ⟨(some 9), none, .f (.ld (.t 8))⟩,
   ⟨(some 10), none, .x (.call 90 [(.t 9)])⟩,
   ⟨(some 11), none, .f (.bin .andNot (.c (.int .i64 4294967295)) (.t 10))⟩,
   ⟨(some 12), none, .f (.bin .or (.t 7) (.t 11))⟩,
   ⟨(some 2), none, .f (.mv (.t 12))⟩]
   [false, false, false, false, true, false, false, false] [[], [0], [], [2], [3, 2], [4, 3, 2], [1, 0, 5, 4, 3, 2], [6, 1, 0, 5, 4, 3, 2]] [0, 1, 2, 3, 4, 5, 6, 7])
 .ret)))
theorem ok42 : fnComp Try.prog 42 = some (13, c42, [(.mv (.t 2))]) := by kernel_rfl

/-- loop.example/g00003/impl.okRoute -/
def c43 : CC :=
 (.seq (.reg [
   ⟨(some 1), none, .x (.box 75 5 (.t 0))⟩,
   ⟨(some 2), none, .f (.mv (.c (.bool false)))⟩])
 (.seq (.reg [
   ⟨(some 3), none, .f (.fadr 0 (.t 1))⟩,
   ⟨(some 4), none, .f (.ldA 2 (.t 3))⟩,
   ⟨(some 5), none, .x (.call 39 [(.t 4)])⟩,
   ⟨(some 6), none, .f (.mv (.t 5))⟩,
   ⟨(some 7), (some (6, true)), .f (.fadr 2 (.t 1))⟩,
   ⟨(some 8), (some (6, true)), .f (.ld (.t 7))⟩,
   ⟨(some 9), (some (6, true)), .f (.bin .eql (.t 8) (.c (.int .i64 0)))⟩,
   ⟨(some 10), (some (6, true)), .f (.mv (.t 9))⟩,
   ⟨(some 11), (some (10, false)), .f (.fadr 2 (.t 1))⟩,
   ⟨(some 12), (some (10, false)), .f (.ld (.t 11))⟩,
   ⟨(some 13), (some (10, false)), .x (.call 40 [(.t 12)])⟩,
   ⟨(some 14), (some (10, false)), .f (.bin .eql (.t 13) (.c (.int .i64 6)))⟩,
   ⟨(some 15), (some (6, true)), .f (.pick (.t 10) (.c (.bool true)) (.t 14))⟩,
   ⟨(some 16), none, .f (.pick (.t 6) (.t 15) (.c (.bool false)))⟩,
   ⟨(some 17), none, .f (.mv (.t 16))⟩,
   ⟨(some 18), (some (17, true)), .f (.fadr 3 (.t 1))⟩,
   ⟨(some 19), (some (17, true)), .f (.ld (.t 18))⟩,
   ⟨(some 20), (some (17, true)), .f (.bin .geq (.t 19) (.c (.int .i64 0)))⟩,
   ⟨(some 21), none, .f (.pick (.t 17) (.t 20) (.c (.bool false)))⟩,
   ⟨(some 22), none, .f (.mv (.t 21))⟩,
   ⟨(some 23), (some (22, true)), .f (.fadr 3 (.t 1))⟩,
   ⟨(some 24), (some (22, true)), .f (.ld (.t 23))⟩,
   ⟨(some 25), (some (22, true)), .f (.bin .leq (.t 24) (.c (.int .i64 7)))⟩,
   ⟨(some 26), none, .f (.pick (.t 22) (.t 25) (.c (.bool false)))⟩,
   ⟨(some 27), none, .f (.mv (.t 26))⟩,
   ⟨(some 28), (some (27, true)), .f (.fadr 4 (.t 1))⟩,
   ⟨(some 29), (some (27, true)), .f (.ld (.t 28))⟩,
   ⟨(some 30), (some (27, true)), .f (.bin .geq (.t 29) (.c (.int .i64 0)))⟩,
   ⟨(some 31), none, .f (.pick (.t 27) (.t 30) (.c (.bool false)))⟩,
   ⟨(some 32), none, .f (.mv (.t 31))⟩,
   ⟨(some 33), (some (32, true)), .f (.fadr 4 (.t 1))⟩,
   ⟨(some 34), (some (32, true)), .f (.ld (.t 33))⟩,
   ⟨(some 35), (some (32, true)), .f (.bin .leq (.t 34) (.c (.int .i64 1000000)))⟩,
   ⟨(some 36), none, .f (.pick (.t 32) (.t 35) (.c (.bool false)))⟩,
   ⟨(some 2), none, .f (.mv (.t 36))⟩])
 .ret))
theorem ok43 : fnComp Try.prog 43 = some (37, c43, [(.mv (.t 2))]) := by kernel_rfl

/-- loop.example/g00003/impl.okRule -/
def c44 : CC :=
 (.seq (.reg [
   ⟨(some 1), none, .x (.box 80 12 (.t 0))⟩,
   ⟨(some 2), none, .f (.mv (.c (.bool false)))⟩])
 (.seq (.reg [
   ⟨(some 4), none, .f (.fadr 0 (.t 1))⟩,
   ⟨(some 5), none, .f (.ld (.t 4))⟩,
   ⟨(some 6), none, .f (.bin .geq (.t 5) (.c (.int .i64 1)))⟩,
   ⟨(some 7), none, .f (.mv (.t 6))⟩,
   ⟨(some 8), (some (7, true)), .f (.fadr 0 (.t 1))⟩,
   ⟨(some 9), (some (7, true)), .f (.ld (.t 8))⟩,
   ⟨(some 10), (some (7, true)), .f (.bin .leq (.t 9) (.c (.int .i64 3)))⟩,
   ⟨(some 11), none, .f (.pick (.t 7) (.t 10) (.c (.bool false)))⟩,
   ⟨(some 12), none, .f (.mv (.t 11))⟩,
   ⟨(some 13), (some (12, true)), .f (.fadr 1 (.t 1))⟩,
   ⟨(some 14), (some (12, true)), .f (.ld (.t 13))⟩,
   ⟨(some 15), (some (12, true)), .f (.bin .geq (.t 14) (.c (.int .i64 1)))⟩,
   ⟨(some 16), none, .f (.pick (.t 12) (.t 15) (.c (.bool false)))⟩,
   ⟨(some 17), none, .f (.mv (.t 16))⟩,
   ⟨(some 18), (some (17, true)), .f (.fadr 1 (.t 1))⟩,
   ⟨(some 19), (some (17, true)), .f (.ld (.t 18))⟩,
   ⟨(some 20), (some (17, true)), .f (.bin .leq (.t 19) (.c (.int .i64 3)))⟩,
   ⟨(some 21), none, .f (.pick (.t 17) (.t 20) (.c (.bool false)))⟩,
   ⟨(some 22), none, .f (.mv (.t 21))⟩,
   ⟨(some 23), (some (22, true)), .f (.fadr 11 (.t 1))⟩,
   ⟨(some 24), (some (22, true)), .f (.ld (.t 23))⟩,
   ⟨(some 25), (some (22, true)), .f (.bin .geq (.t 24) (.c (.int .i64 0)))⟩,
   ⟨(some 26), none, .f (.pick (.t 22) (.t 25) (.c (.bool false)))⟩,
   ⟨(some 27), none, .f (.mv (.t 26))⟩,
   ⟨(some 28), (some (27, true)), .f (.fadr 11 (.t 1))⟩,
   ⟨(some 29), (some (27, true)), .f (.ld (.t 28))⟩,
   ⟨(some 30), (some (27, true)), .f (.bin .leq (.t 29) (.c (.int .i64 4)))⟩,
   ⟨(some 31), none, .f (.pick (.t 27) (.t 30) (.c (.bool false)))⟩,
   ⟨(some 32), none, .f (.mv (.t 31))⟩,
   ⟨(some 33), (some (32, true)), .f (.fadr 2 (.t 1))⟩,
   ⟨(some 34), (some (32, true)), .f (.ld (.t 33))⟩,
   ⟨(some 35), (some (32, true)), .f (.bin .eql (.t 34) (.c (.int .i64 0)))⟩,
   ⟨(some 36), (some (32, true)), .f (.mv (.t 35))⟩,
   ⟨(some 37), (some (36, false)), .f (.fadr 2 (.t 1))⟩,
   ⟨(some 38), (some (36, false)), .f (.ld (.t 37))⟩,
   ⟨(some 39), (some (36, false)), .f (.bin .eql (.t 38) (.c (.int .i64 1)))⟩,
   ⟨(some 40), (some (32, true)), .f (.pick (.t 36) (.c (.bool true)) (.t 39))⟩,
   ⟨(some 41), (some (32, true)), .f (.mv (.t 40))⟩,
   ⟨(some 42), (some (41, false)), .f (.fadr 2 (.t 1))⟩,
   ⟨(some 43), (some (41, false)), .f (.ld (.t 42))⟩,
   ⟨(some 44), (some (41, false)), .f (.bin .eql (.t 43) (.c (.int .i64 6)))⟩,
   ⟨(some 45), (some (32, true)), .f (.pick (.t 41) (.c (.bool true)) (.t 44))⟩,
   ⟨(some 46), (some (32, true)), .f (.mv (.t 45))⟩,
   ⟨(some 47), (some (46, false)), .f (.fadr 2 (.t 1))⟩,
   ⟨(some 48), (some (46, false)), .f (.ld (.t 47))⟩,
   ⟨(some 49), (some (46, false)), .f (.bin .eql (.t 48) (.c (.int .i64 17)))⟩,
   ⟨(some 50), (some (32, true)), .f (.pick (.t 46) (.c (.bool true)) (.t 49))⟩,
   ⟨(some 51), none, .f (.pick (.t 32) (.t 50) (.c (.bool false)))⟩,
   ⟨(some 52), none, .f (.mv (.t 51))⟩,
   ⟨(some 53), (some (52, true)), .f (.fadr 3 (.t 1))⟩,
   ⟨(some 54), (some (52, true)), .f (.ldA 2 (.t 53))⟩,
   ⟨(some 55), (some (52, true)), .x (.call 39 [(.t 54)])⟩,
   ⟨(some 56), none, .f (.pick (.t 52) (.t 55) (.c (.bool false)))⟩,
   ⟨(some 57), none, .f (.mv (.t 56))⟩,
   ⟨(some 58), (some (57, true)), .f (.fadr 7 (.t 1))⟩,
   ⟨(some 59), (some (57, true)), .f (.ldA 2 (.t 58))⟩,
   ⟨(some 60), (some (57, true)), .x (.call 39 [(.t 59)])⟩,
   ⟨(some 61), none, .f (.pick (.t 57) (.t 60) (.c (.bool false)))⟩,
   ⟨(some 62), none, .f (.mv (.t 61))⟩,
   ⟨(some 63), (some (62, true)), .f (.fadr 5 (.t 1))⟩,
   ⟨(some 64), (some (62, true)), .f (.ld (.t 63))⟩,
   ⟨(some 65), (some (62, true)), .x (.call 91 [(.t 64)])⟩,
   ⟨(some 66), none, .f (.pick (.t 62) (.t 65) (.c (.bool false)))⟩,
   ⟨(some 67), none, .f (.mv (.t 66))⟩,
   ⟨(some 68), (some (67, true)), .f (.fadr 6 (.t 1))⟩,
   ⟨(some 69), (some (67, true)), .f (.ld (.t 68))⟩,
   ⟨(some 70), (some (67, true)), .x (.call 91 [(.t 69)])⟩,
   ⟨(some 71), none, .f (.pick (.t 67) (.t 70) (.c (.bool false)))⟩,
   ⟨(some 72), none, .f (.mv (.t 71))⟩,
   ⟨(some 73), (some (72, true)), .f (.fadr 9 (.t 1))⟩,
   ⟨(some 74), (some (72, true)), .f (.ld (.t 73))⟩,
   ⟨(some 75), (some (72, true)), .x (.call 91 [(.t 74)])⟩,
   ⟨(some 76), none, .f (.pick (.t 72) (.t 75) (.c (.bool false)))⟩,
   ⟨(some 77), none, .f (.mv (.t 76))⟩,
   ⟨(some 78), (some (77, true)), .f (.fadr 10 (.t 1))⟩,
   ⟨(some 79), (some (77, true)), .f (.ld (.t 78))⟩,
   ⟨(some 80), (some (77, true)), .x (.call 91 [(.t 79)])⟩,
   ⟨(some 81), none, .f (.pick (.t 77) (.t 80) (.c (.bool false)))⟩,
   ⟨(some 82), none, .f (.mv (.t 81))⟩,
   ⟨(some 83), (some (82, true)), .f (.fadr 5 (.t 1))⟩,
   ⟨(some 84), (some (82, true)), .f (.ld (.t 83))⟩,
   ⟨(some 85), (some (82, true)), .f (.fadr 6 (.t 1))⟩,
   ⟨(some 86), (some (82, true)), .f (.ld (.t 85))⟩,
   ⟨(some 87), (some (82, true)), .f (.bin .leq (.t 84) (.t 86))⟩,
   ⟨(some 88), none, .f (.pick (.t 82) (.t 87) (.c (.bool false)))⟩,
   ⟨(some 89), none, .f (.mv (.t 88))⟩,
   ⟨(some 90), (some (89, true)), .f (.fadr 9 (.t 1))⟩,
   ⟨(some 91), (some (89, true)), .f (.ld (.t 90))⟩,
   ⟨(some 92), (some (89, true)), .f (.fadr 10 (.t 1))⟩,
   ⟨(some 93), (some (89, true)), .f (.ld (.t 92))⟩,
   ⟨(some 94), (some (89, true)), .f (.bin .leq (.t 91) (.t 93))⟩,
   ⟨(some 95), none, .f (.pick (.t 89) (.t 94) (.c (.bool false)))⟩,
   ⟨(some 3), none, .f (.mv (.t 95))⟩])
 (.seq (.seq (.reg [
   ⟨(some 96), none, .f (.mv (.t 3))⟩,
   ⟨(some 97), none, .f (.mv (.t 96))⟩,
   ⟨(some 98), (some (97, true)), .f (.fadr 2 (.t 1))⟩,
   ⟨(some 99), (some (97, true)), .f (.ld (.t 98))⟩,
   ⟨(some 100), (some (97, true)), .f (.bin .neq (.t 99) (.c (.int .i64 6)))⟩,
   ⟨(some 101), none, .f (.pick (.t 97) (.t 100) (.c (.bool false)))⟩,
   ⟨(some 102), none, .f (.mv (.t 101))⟩,
   ⟨(some 103), (some (102, true)), .f (.fadr 2 (.t 1))⟩,
   ⟨(some 104), (some (102, true)), .f (.ld (.t 103))⟩,
   ⟨(some 105), (some (102, true)), .f (.bin .neq (.t 104) (.c (.int .i64 17)))⟩,
   ⟨(some 106), none, .f (.pick (.t 102) (.t 105) (.c (.bool false)))⟩])
 (.cond (.t 106)
  (.reg [
    ⟨(some 107), none, .f (.fadr 5 (.t 1))⟩,
    ⟨(some 108), none, .f (.ld (.t 107))⟩,
    ⟨(some 109), none, .f (.bin .eql (.t 108) (.c (.int .i64 0)))⟩,
    ⟨(some 110), none, .f (.mv (.t 109))⟩,
    ⟨(some 111), (some (110, true)), .f (.fadr 6 (.t 1))⟩,
    ⟨(some 112), (some (110, true)), .f (.ld (.t 111))⟩,
    ⟨(some 113), (some (110, true)), .f (.bin .eql (.t 112) (.c (.int .i64 65535)))⟩,
    ⟨(some 114), none, .f (.pick (.t 110) (.t 113) (.c (.bool false)))⟩,
    ⟨(some 115), none, .f (.mv (.t 114))⟩,
    ⟨(some 116), (some (115, true)), .f (.fadr 9 (.t 1))⟩,
    ⟨(some 117), (some (115, true)), .f (.ld (.t 116))⟩,
    ⟨(some 118), (some (115, true)), .f (.bin .eql (.t 117) (.c (.int .i64 0)))⟩,
    ⟨(some 119), none, .f (.pick (.t 115) (.t 118) (.c (.bool false)))⟩,
    ⟨(some 120), none, .f (.mv (.t 119))⟩,
    ⟨(some 121), (some (120, true)), .f (.fadr 10 (.t 1))⟩,
    ⟨(some 122), (some (120, true)), .f (.ld (.t 121))⟩,
    ⟨(some 123), (some (120, true)), .f (.bin .eql (.t 122) (.c (.int .i64 65535)))⟩,
    ⟨(some 124), none, .f (.pick (.t 120) (.t 123) (.c (.bool false)))⟩,
    ⟨(some 3), none, .f (.mv (.t 124))⟩])
  .skip))
 (.seq (.reg [
   ⟨(some 125), none, .f (.mv (.t 3))⟩,
   ⟨(some 2), none, .f (.mv (.t 125))⟩])
 .ret))))
theorem ok44 : fnComp Try.prog 44 = some (126, c44, [(.mv (.t 2))]) := by kernel_rfl

/-- loop.example/g00003/spec.l01In -/
def c50 : CC :=
 (.seq (.reg [
   ⟨(some 6), none, .f (.mv (.c (.bool false)))⟩])
 (.seq (.reg [
   ⟨(some 7), none, .f (.mv (.t 0))⟩,
   ⟨(some 8), none, .f (.mv (.t 1))⟩,
   ⟨(some 9), none, .f (.bin .geq (.t 7) (.t 8))⟩,
   ⟨(some 10), none, .f (.mv (.t 9))⟩,
   ⟨(some 11), (some (10, true)), .f (.mv (.t 0))⟩,
   ⟨(some 12), (some (10, true)), .f (.mv (.t 2))⟩,
   ⟨(some 13), (some (10, true)), .f (.bin .leq (.t 11) (.t 12))⟩,
   ⟨(some 14), none, .f (.pick (.t 10) (.t 13) (.c (.bool false)))⟩,
   ⟨(some 6), none, .f (.mv (.t 14))⟩])
 .ret))
theorem ok50 : fnComp Try.prog 50 = some (15, c50, [(.mv (.t 6))]) := by kernel_rfl

/-- loop.example/g00003/spec.l02PrefixOK -/
def c81 : CC :=
 (.seq (.reg [
   ⟨(some 1), none, .x (.box 71 2 (.t 0))⟩,
   ⟨(some 2), none, .f (.mv (.c (.bool false)))⟩])
 (.seq (.dreg [
   ⟨(some 3), none, .f (.fadr 0 (.t 1))⟩,
   ⟨(some 4), none, .f (.ld (.t 3))⟩,
   ⟨(some 5), none, .x (.call 29 [(.t 4)])⟩,
   ⟨(some 6), none, .f (.mv (.t 5))⟩,
   ⟨(some 7), (some (6, true)), .f (.fadr 1 (.t 1))⟩,
   ⟨(some 8), (some (6, true)), .f (.ld (.t 7))⟩,
   ⟨(some 9), (some (6, true)), .x (.call 50 [(.t 8), (.c (.int .i64 0)), (.c (.int .i64 32))])⟩,
   ⟨(some 10), none, .f (.pick (.t 6) (.t 9) (.c (.bool false)))⟩,
   ⟨(some 11), none, .f (.mv (.t 10))⟩,
   ⟨(some 12), (some (11, true)), .f (.fadr 0 (.t 1))⟩,
   ⟨(some 13), (some (11, true)), .f (.ld (.t 12))⟩,
   ⟨(some 14), (some (11, true)), .f (.fadr 1 (.t 1))⟩,
   ⟨(some 15), (some (11, true)), .f (.ld (.t 14))⟩,
   ⟨(some 16), (some (11, true)), .x (.call 113 [(.t 15)])⟩,
   ⟨(some 17), (some (11, true)), .f (.bin .rem (.t 13) (.t 16))⟩,
   ⟨(some 18), (some (11, true)), .f (.bin .eql (.t 17) (.c (.int .i64 0)))⟩,
   ⟨(some 19), none, .f (.pick (.t 11) (.t 18) (.c (.bool false)))⟩,
   ⟨(some 2), none, .f (.mv (.t 19))⟩]
   [false, false, true, false, false, false, true, false, false, false, false, false, false, true, false, false, false, false] [[], [0], [1, 0], [2, 1, 0], [3, 2, 1, 0], [4, 3, 2, 1, 0], [5, 4, 3, 2, 1, 0], [3, 2, 1, 0, 6, 5, 4], [7, 3, 2, 1, 0, 6, 5, 4], [8, 7, 3, 2, 1, 0, 6, 5, 4], [9, 8, 7, 3, 2, 1, 0, 6, 5, 4], [8, 7, 3, 2, 1, 0, 6, 5, 4], [11, 8, 7, 3, 2, 1, 0, 6, 5, 4], [12, 11, 8, 7, 3, 2, 1, 0, 6, 5, 4], [10, 9, 8, 7, 3, 2, 1, 0, 6, 5, 4, 13, 12, 11], [14, 10, 9, 8, 7, 3, 2, 1, 0, 6, 5, 4, 13, 12, 11], [8, 7, 3, 2, 1, 0, 6, 5, 4, 15, 14, 10, 9, 13, 12, 11], [16, 8, 7, 3, 2, 1, 0, 6, 5, 4, 15, 14, 10, 9, 13, 12, 11]] [0, 1, 2, 3, 4, 5, 6, 7, 8, 9, 10, 11, 12, 13, 14, 15, 16, 17])
 .ret))
theorem ok81 : fnComp Try.prog 81 = some (20, c81, [(.mv (.t 2))]) := by kernel_rfl

/-- loop.example/g00003/spec.AddrKind -/
def c82 : CC :=
 (.seq (.reg [
   ⟨(some 2), none, .f (.mv (.c (.int .i64 0)))⟩])
 (.seq (.block 0 (.seq (.reg [
    ⟨(some 4), none, .f (.mv (.t 0))⟩,
    ⟨(some 5), none, .x (.call 29 [(.t 4)])⟩,
    ⟨(some 6), none, .f (.un .not (.t 5))⟩,
    ⟨(some 3), none, .f (.mv (.t 6))⟩])
  (.cond (.t 3)
   (.seq (.reg [
     ⟨(some 2), none, .f (.mv (.c (.int .i64 0)))⟩])
   .ret)
   (.seq (.reg [
     ⟨(some 8), none, .f (.mv (.t 0))⟩,
     ⟨(some 9), none, .f (.bin .eql (.t 8) (.c (.int .i64 0)))⟩,
     ⟨(some 7), none, .f (.mv (.t 9))⟩])
   (.cond (.t 7)
    (.seq (.reg [
      ⟨(some 2), none, .f (.mv (.c (.int .i64 1)))⟩])
    .ret)
    (.seq (.reg [
      ⟨(some 11), none, .f (.mv (.t 0))⟩,
      ⟨(some 12), none, .f (.bin .shr (.t 11) (.c (.int .u64 24)))⟩,
      ⟨(some 13), none, .f (.bin .eql (.t 12) (.c (.int .i64 127)))⟩,
      ⟨(some 10), none, .f (.mv (.t 13))⟩])
    (.cond (.t 10)
     (.seq (.reg [
       ⟨(some 2), none, .f (.mv (.c (.int .i64 2)))⟩])
     .ret)
     (.seq (.reg [
       ⟨(some 15), none, .f (.mv (.t 0))⟩,
       ⟨(some 16), none, .f (.bin .eql (.t 15) (.c (.int .i64 4294967295)))⟩,
       ⟨(some 14), none, .f (.mv (.t 16))⟩])
     (.cond (.t 14)
      (.seq (.reg [
        ⟨(some 2), none, .f (.mv (.c (.int .i64 4)))⟩])
      .ret)
      (.seq (.reg [
        ⟨(some 18), none, .f (.mv (.t 0))⟩,
        ⟨(some 19), none, .f (.bin .shr (.t 18) (.c (.int .u64 28)))⟩,
        ⟨(some 20), none, .f (.bin .eql (.t 19) (.c (.int .i64 14)))⟩,
        ⟨(some 17), none, .f (.mv (.t 20))⟩])
      (.cond (.t 17)
       (.seq (.reg [
         ⟨(some 2), none, .f (.mv (.c (.int .i64 3)))⟩])
       .ret)
       (.seq (.reg [
         ⟨(some 22), none, .f (.mv (.t 0))⟩,
         ⟨(some 23), none, .f (.bin .shr (.t 22) (.c (.int .u64 28)))⟩,
         ⟨(some 24), none, .f (.bin .eql (.t 23) (.c (.int .i64 15)))⟩,
         ⟨(some 21), none, .f (.mv (.t 24))⟩])
       (.cond (.t 21)
        (.seq (.reg [
          ⟨(some 2), none, .f (.mv (.c (.int .i64 5)))⟩])
        .ret)
        .skip)))))))))))))
 (.seq (.reg [
   ⟨(some 2), none, .f (.mv (.c (.int .i64 6)))⟩])
 .ret)))
theorem ok82 : fnComp Try.prog 82 = some (25, c82, [(.mv (.t 2))]) := by kernel_rfl

/-- loop.example/g00003/spec.PrefixHas -/
def c83 : CC :=
 (.seq (.reg [
   ⟨(some 2), none, .x (.box 71 2 (.t 0))⟩,
   ⟨(some 4), none, .f (.mv (.c (.bool false)))⟩])
 (.seq (.dreg [
   ⟨(some 5), none, .f (.ldA 2 (.t 2))⟩,
   ⟨(some 6), none, .x (.call 81 [(.t 5)])⟩,
   ⟨(some 7), none, .f (.mv (.t 6))⟩,
   ⟨(some 8), (some (7, true)), .f (.mv (.t 1))⟩,
   ⟨(some 9), (some (7, true)), .x (.call 29 [(.t 8)])⟩,
   ⟨(some 10), none, .f (.pick (.t 7) (.t 9) (.c (.bool false)))⟩,
   ⟨(some 11), none, .f (.mv (.t 10))⟩,
   ⟨(some 12), (some (11, true)), .f (.mv (.t 1))⟩,
   ⟨(some 13), (some (11, true)), .f (.fadr 1 (.t 2))⟩,
   ⟨(some 14), (some (11, true)), .f (.ld (.t 13))⟩,
   ⟨(some 15), (some (11, true)), .x (.call 113 [(.t 14)])⟩,
   ⟨(some 16), (some (11, true)), .f (.bin .quo (.t 12) (.t 15))⟩,
   ⟨(some 17), (some (11, true)), .f (.fadr 0 (.t 2))⟩,
   ⟨(some 18), (some (11, true)), .f (.ld (.t 17))⟩,
   ⟨(some 19), (some (11, true)), .f (.fadr 1 (.t 2))⟩,
   ⟨(some 20), (some (11, true)), .f (.ld (.t 19))⟩,
   ⟨(some 21), (some (11, true)), .x (.call 113 [(.t 20)])⟩,
   ⟨(some 22), (some (11, true)), .f (.bin .quo (.t 18) (.t 21))⟩,
   ⟨(some 23), (some (11, true)), .f (.bin .eql (.t 16) (.t 22))⟩,
   ⟨(some 24), none, .f (.pick (.t 11) (.t 23) (.c (.bool false)))⟩,
   ⟨(some 4), none, .f (.mv (.t 24))⟩]
   [false, true, false, false, true, false, false, false, false, false, true, false, false, false, false, false, true, false, false, false, false] [[], [0], [1, 0], [2, 1, 0], [3, 2, 1, 0], [2, 1, 0, 4, 3], [5, 2, 1, 0, 4, 3], [6, 5, 2, 1, 0, 4, 3], [6, 5, 2, 1, 0, 4, 3], [8, 6, 5, 2, 1, 0, 4, 3], [9, 8, 6, 5, 2, 1, 0, 4, 3], [7, 6, 5, 2, 1, 0, 4, 3, 10, 9, 8], [6, 5, 2, 1, 0, 4, 3], [12, 6, 5, 2, 1, 0, 4, 3], [6, 5, 2, 1, 0, 4, 3], [14, 6, 5, 2, 1, 0, 4, 3], [15, 14, 6, 5, 2, 1, 0, 4, 3, 10, 9, 8], [13, 12, 6, 5, 2, 1, 0, 4, 3, 16, 15, 14, 10, 9, 8], [11, 7, 6, 5, 2, 1, 0, 4, 3, 10, 9, 8, 17, 13, 12, 16, 15, 14], [6, 5, 2, 1, 0, 4, 3, 18, 11, 7, 10, 9, 8, 17, 13, 12, 16, 15, 14], [19, 6, 5, 2, 1, 0, 4, 3, 18, 11, 7, 10, 9, 8, 17, 13, 12, 16, 15, 14]] [0, 1, 2, 3, 4, 5, 6, 7, 8, 9, 12, 13, 14, 15, 10, 11, 16, 17, 18, 19, 20])
 .ret))
theorem ok83 : fnComp Try.prog 83 = some (25, c83, [(.mv (.t 4))]) := by kernel_rfl

/-- loop.example/g00003/spec.Broadcast -/
def c84 : CC :=
 (.seq (.reg [
   ⟨(some 1), none, .x (.box 71 2 (.t 0))⟩,
   ⟨(some 2), none, .f (.mv (.c (.int .i64 0)))⟩])
 (.seq (.seq (.reg [
   ⟨(some 3), none, .f (.ldA 2 (.t 1))⟩,
   ⟨(some 4), none, .x (.call 81 [(.t 3)])⟩,
   ⟨(some 5), none, .f (.un .not (.t 4))⟩])
 (.cond (.t 5)
  (.seq (.reg [
    ⟨(some 2), none, .f (.mv (.c (.int .i64 (-1))))⟩])
  .ret)
  .skip))
 (.seq (.dreg [
   ⟨(some 6), none, .f (.fadr 0 (.t 1))⟩,
   ⟨(some 7), none, .f (.ld (.t 6))⟩,
   ⟨(some 8), none, .f (.fadr 1 (.t 1))⟩,
   ⟨(some 9), none, .f (.ld (.t 8))⟩,
   ⟨(some 10), none, .x (.call 113 [(.t 9)])⟩,
   ⟨(some 11), none, .f (.bin .add (.t 7) (.t 10))⟩,
   ⟨(some 12), none, .f (.bin .sub (.t 11) (.c (.int .i64 1)))⟩,
   ⟨(some 2), none, .f (.mv (.t 12))⟩]
   [false, false, false, false, true, false, false, false] [[], [0], [], [2], [3, 2], [1, 0, 4, 3, 2], [5, 1, 0, 4, 3, 2], [6, 5, 1, 0, 4, 3, 2]] [0, 1, 2, 3, 4, 5, 6, 7])
 .ret)))
theorem ok84 : fnComp Try.prog 84 = some (13, c84, [(.mv (.t 2))]) := by kernel_rfl

/-- loop.example/g00003/spec.l09PortsOK -/
def c85 : CC :=
 (.seq (.reg [
   ⟨(some 4), none, .f (.mv (.c (.bool false)))⟩])
 (.seq (.reg [
   ⟨(some 5), none, .f (.mv (.t 0))⟩,
   ⟨(some 6), none, .x (.call 114 [(.t 5)])⟩,
   ⟨(some 7), none, .f (.mv (.t 6))⟩,
   ⟨(some 8), (some (7, true)), .f (.mv (.t 1))⟩,
   ⟨(some 9), (some (7, true)), .x (.call 114 [(.t 8)])⟩,
   ⟨(some 10), none, .f (.pick (.t 7) (.t 9) (.c (.bool false)))⟩,
   ⟨(some 11), none, .f (.mv (.t 10))⟩,
   ⟨(some 12), (some (11, true)), .f (.mv (.t 0))⟩,
   ⟨(some 13), (some (11, true)), .f (.mv (.t 1))⟩,
   ⟨(some 14), (some (11, true)), .f (.bin .leq (.t 12) (.t 13))⟩,
   ⟨(some 15), none, .f (.pick (.t 11) (.t 14) (.c (.bool false)))⟩,
   ⟨(some 4), none, .f (.mv (.t 15))⟩])
 .ret))
theorem ok85 : fnComp Try.prog 85 = some (16, c85, [(.mv (.t 4))]) := by kernel_rfl

/-- loop.example/g00003/spec.l09AllPorts -/
def c86 : CC :=
 (.seq (.reg [
   ⟨(some 4), none, .f (.mv (.c (.bool false)))⟩])
 (.seq (.reg [
   ⟨(some 5), none, .f (.mv (.t 0))⟩,
   ⟨(some 6), none, .f (.bin .eql (.t 5) (.c (.int .i64 0)))⟩,
   ⟨(some 7), none, .f (.mv (.t 6))⟩,
   ⟨(some 8), (some (7, true)), .f (.mv (.t 1))⟩,
   ⟨(some 9), (some (7, true)), .f (.bin .eql (.t 8) (.c (.int .i64 65535)))⟩,
   ⟨(some 10), none, .f (.pick (.t 7) (.t 9) (.c (.bool false)))⟩,
   ⟨(some 4), none, .f (.mv (.t 10))⟩])
 .ret))
theorem ok86 : fnComp Try.prog 86 = some (11, c86, [(.mv (.t 4))]) := by kernel_rfl

/-- loop.example/g00003/impl.mask -/
def c90 : CC :=
 (.seq (.reg [
   ⟨(some 2), none, .f (.mv (.c (.int .i64 0)))⟩])
 (.seq (.reg [
   ⟨(some 3), none, .f (.mv (.t 0))⟩,
   ⟨(some 4), none, .f (.bin .sub (.c (.int .i64 32)) (.t 3))⟩,
   ⟨(some 5), none, .f (.bin .shr (.c (.int .i64 4294967295)) (.t 4))⟩,
   ⟨(some 6), none, .f (.mv (.t 0))⟩,
   ⟨(some 7), none, .f (.bin .sub (.c (.int .i64 32)) (.t 6))⟩,
   ⟨(some 8), none, .f (.bin .shl (.t 5) (.t 7))⟩,
   ⟨(some 2), none, .f (.mv (.t 8))⟩])
 .ret))
theorem ok90 : fnComp Try.prog 90 = some (9, c90, [(.mv (.t 2))]) := by kernel_rfl

/-- loop.example/g00003/impl.isPort -/
def c91 : CC :=
 (.seq (.reg [
   ⟨(some 2), none, .f (.mv (.c (.bool false)))⟩])
 (.seq (.reg [
   ⟨(some 3), none, .f (.mv (.t 0))⟩,
   ⟨(some 4), none, .f (.bin .geq (.t 3) (.c (.int .i64 0)))⟩,
   ⟨(some 5), none, .f (.mv (.t 4))⟩,
   ⟨(some 6), (some (5, true)), .f (.mv (.t 0))⟩,
   ⟨(some 7), (some (5, true)), .f (.bin .leq (.t 6) (.c (.int .i64 65535)))⟩,
   ⟨(some 8), none, .f (.pick (.t 5) (.t 7) (.c (.bool false)))⟩,
   ⟨(some 2), none, .f (.mv (.t 8))⟩])
 .ret))
theorem ok91 : fnComp Try.prog 91 = some (9, c91, [(.mv (.t 2))]) := by kernel_rfl

/-- loop.example/g00003/spec.l02Size -/
def c113 : CC :=
 (.seq (.reg [
   ⟨(some 2), none, .f (.mv (.c (.int .i64 0)))⟩])
 (.seq (.reg [
   ⟨(some 3), none, .f (.mv (.c (.int .i64 1)))⟩])
 (.seq (.seq (.reg [
   ⟨(some 5), none, .f (.mv (.t 0))⟩,
   ⟨(some 4), none, .f (.mv (.t 5))⟩])
 (.block 0 (.loop (.seq (.seq (.reg [
     ⟨(some 6), none, .f (.mv (.t 4))⟩,
     ⟨(some 7), none, .f (.bin .lss (.t 6) (.c (.int .i64 32)))⟩])
   (.cond (.t 7)
    .skip
    (.exit 0)))
   (.seq (.block 1 (.reg [
      ⟨(some 10), none, .f (.mv (.t 3))⟩,
      ⟨(some 11), none, .f (.bin .mul (.t 10) (.c (.int .i64 2)))⟩,
      ⟨(some 3), none, .f (.mv (.t 11))⟩]))
   (.reg [
     ⟨(some 8), none, .f (.mv (.t 4))⟩,
     ⟨(some 9), none, .f (.bin .add (.t 8) (.c (.int .i64 1)))⟩,
     ⟨(some 4), none, .f (.mv (.t 9))⟩]))))))
 (.seq (.reg [
   ⟨(some 12), none, .f (.mv (.t 3))⟩,
   ⟨(some 2), none, .f (.mv (.t 12))⟩])
 .ret))))
theorem ok113 : fnComp Try.prog 113 = some (13, c113, [(.mv (.t 2))]) := by kernel_rfl

/-- loop.example/g00003/spec.l10PortOK -/
def c114 : CC :=
 (.seq (.reg [
   ⟨(some 2), none, .f (.mv (.c (.bool false)))⟩])
 (.seq (.reg [
   ⟨(some 3), none, .f (.mv (.t 0))⟩,
   ⟨(some 4), none, .x (.call 50 [(.t 3), (.c (.int .i64 0)), (.c (.int .i64 65535))])⟩,
   ⟨(some 2), none, .f (.mv (.t 4))⟩])
 .ret))
theorem ok114 : fnComp Try.prog 114 = some (5, c114, [(.mv (.t 2))]) := by kernel_rfl

end Go.Proofs.Ytcmcfmgabafljaa

namespace Go.Proofs.Ytcmcfmgabafljaa
open Go Go.IW

/-! Numbers and masks. -/
theorem nat_and_mask {a k : Nat} (ha : a < 2 ^ 32) (hk : k ≤ 32) : a &&& (2 ^ 32 - 2 ^ k) = a - a % 2 ^ k := by
  have h1 : 2 ^ 32 - 2 ^ k = (2 ^ (32 - k) - 1) <<< k := by
    rw [Nat.shiftLeft_eq, Nat.sub_mul, ← Nat.pow_add, Nat.sub_add_cancel hk, Nat.one_mul]
  have h2 : a - a % 2 ^ k = (a >>> k) <<< k := by
    rw [Nat.shiftLeft_eq, Nat.shiftRight_eq_div_pow]
    have := Nat.div_add_mod a (2 ^ k)
    rw [Nat.mul_comm] at this
    omega
  rw [h1, h2]
  apply Nat.eq_of_testBit_eq
  intro i
  rw [Nat.testBit_and, Nat.testBit_shiftLeft, Nat.testBit_shiftLeft, Nat.testBit_two_pow_sub_one, Nat.testBit_shiftRight]
  by_cases h : k ≤ i
  · have e : k + (i - k) = i := by omega
    rw [e]
    by_cases h3 : i < 32
    · have : decide (i - k < 32 - k) = true := decide_eq_true (by omega)
      rw [this]; simp [Bool.and_comm]
    · have : a.testBit i = false := Nat.testBit_lt_two_pow (Nat.lt_of_lt_of_le ha (Nat.pow_le_pow_right (by decide) (by omega)))
      rw [this]; simp
  · have : decide (i ≥ k) = false := decide_eq_false (by omega)
    rw [this]; simp
theorem bits_and_nat {a b : Nat} (ha : a < 2 ^ 32) (hb : b < 2 ^ 33) : IW.bits .and .i64 (a : Int) (b : Int) = ((a &&& b : Nat) : Int) := by
  show wr .i64 (((BitVec.ofInt 64 (a : Int) &&& BitVec.ofInt 64 (b : Int)).toNat : Nat) : Int) = _
  have e1 : (BitVec.ofInt 64 (a : Int)).toNat = a := by rw [BitVec.toNat_ofInt]; omega
  have e2 : (BitVec.ofInt 64 (b : Int)).toNat = b := by rw [BitVec.toNat_ofInt]; omega
  rw [BitVec.toNat_and, e1, e2]
  have : a &&& b ≤ a := Nat.and_le_left
  rw [wr64 _ (by omega)]
theorem and_mask {a : Int} {k : Nat} (h0 : 0 ≤ a) (h1 : a ≤ 4294967295) (hk : k ≤ 32) : IW.bits .and .i64 a (4294967296 - 2 ^ k) = a - a % 2 ^ k := by
  have hp : 2 ^ k ≤ 2 ^ 32 := Nat.pow_le_pow_right (by decide) hk
  have e1 : a = (a.toNat : Int) := by omega
  have e2 : (4294967296 : Int) - 2 ^ k = ((2 ^ 32 - 2 ^ k : Nat) : Int) := by
    rw [Int.natCast_sub hp]; simp
  rw [e1, e2, bits_and_nat (by omega) (Nat.lt_of_le_of_lt (Nat.sub_le _ _) (by decide)), nat_and_mask (by omega) hk]
  rw [Int.natCast_sub (Nat.mod_le _ _)]
  simp
theorem or_low {a : Int} {k : Nat} (h0 : 0 ≤ a) (h1 : a ≤ 4294967295) (hk : k ≤ 32) (hd : a % 2 ^ k = 0) : IW.bits .or .i64 a (2 ^ k - 1) = a + 2 ^ k - 1 := by
  have hp : (2 : Int) ^ k ≤ 2 ^ 32 := by
    have := Nat.pow_le_pow_right (n := 2) (by decide) hk
    exact_mod_cast this
  have hp0 : (0 : Int) < 2 ^ k := Int.pow_pos (by decide)
  have this : IW.bits .or .i64 a (2 ^ k - 1) = a + (2 ^ k - 1) := bits_join .i64 63 (by decide) (fun n hn0 hn1 => by rw [IntKind.wrap_i64]; omega) k a (2 ^ k - 1) (by omega) (by omega) (by omega) (by omega) (by omega) (by omega)
  rw [this]; omega
end Go.Proofs.Ytcmcfmgabafljaa

namespace Go.Proofs.Ytcmcfmgabafljaa
open Go Go.IW

def okA (a : Int) : Bool := decide (0 ≤ a) && decide (a ≤ 4294967295)
def inR (a lo hi : Int) : Bool := decide (lo ≤ a) && decide (a ≤ hi)
def sizeP (b : Int) : Int := 2 ^ (32 - b.toNat)
def okP (a b : Int) : Bool := okA a && inR b 0 32 && decide (a.tmod (sizeP b) = 0)
def kindA (a : Int) : Int := if okA a = false then 0 else if a = 0 then 1 else if a.fdiv (2 ^ 24) = 127 then 2 else if a = 4294967295 then 4 else if a.fdiv (2 ^ 28) = 14 then 3 else if a.fdiv (2 ^ 28) = 15 then 5 else 6
def hasP (a b x : Int) : Bool := okP a b && okA x && decide (x.tdiv (sizeP b) = a.tdiv (sizeP b))
def bcast (a b : Int) : Int := if okP a b = false then -1 else a + sizeP b - 1
theorem pow_le32 {j : Nat} (h : j ≤ 32) : (2 : Int) ^ j ≤ 2 ^ 32 := by
  have := Nat.pow_le_pow_right (n := 2) (by decide) h
  exact_mod_cast this
theorem sizeP_pos (b : Int) : 0 < sizeP b ∧ sizeP b ≤ 4294967296 := by
  unfold sizeP
  have h : (2 : Nat) ^ (32 - b.toNat) ≤ 2 ^ 32 := Nat.pow_le_pow_right (by decide) (by omega)
  have h2 : ((2 : Int) ^ (32 - b.toNat)) = (((2 : Nat) ^ (32 - b.toNat) : Nat) : Int) := by simp
  have h3 : 0 < (2 : Nat) ^ (32 - b.toNat) := Nat.pow_pos (by decide)
  rw [h2]
  omega
theorem okP_ok {a b : Int} (h : okP a b = true) : (0 ≤ a ∧ a ≤ 4294967295) ∧ (0 ≤ b ∧ b ≤ 32) ∧ a.tmod (sizeP b) = 0 := by
  unfold okP okA inR at h
  simp only [Bool.and_eq_true, decide_eq_true_eq] at h
  exact ⟨h.1.1, h.1.2, h.2⟩

set_option maxRecDepth 20000 in
theorem l01In_c (h : IH) (n lo hi : Int) : ICalls Try.prog 50 [.int .i64 n, .int .i64 lo, .int .i64 hi] h fun r h' => r = .bool (inR n lo hi) ∧ h' = h := by
  refine icalls (.of ok50) (Nat.le_of_ble_eq_true rfl) ?_
  unfold c50 inR
  by_cases c1 : lo ≤ n
  · have d1 : decide (lo ≤ n) = true := decide_eq_true c1
    simp only [d1, Bool.true_and, go_sem, Hold.p, HoldK.k, HoldL.K, HoldL.body, Nat.reduceBEq, Nat.reduceAdd, List.getElem?_cons_zero, List.getElem?_cons_succ, Option.bind_some, List.map_cons, List.map_nil, Nat.zero_add, if_true, List.getD_cons_zero, List.getD_cons_succ, List.contains_cons, List.contains_nil, Nat.reduceBEq, Bool.or_true, Bool.true_or, Bool.or_false, Bool.false_or, Bool.not_true, Bool.not_false, true_and, and_true]
  · have d1 : decide (lo ≤ n) = false := decide_eq_false c1
    simp only [d1, Bool.false_and, go_sem, Hold.p, HoldK.k, HoldL.K, HoldL.body, Nat.reduceBEq, Nat.reduceAdd, List.getElem?_cons_zero, List.getElem?_cons_succ, Option.bind_some, List.map_cons, List.map_nil, Nat.zero_add, if_true, List.getD_cons_zero, List.getD_cons_succ, List.contains_cons, List.contains_nil, Nat.reduceBEq, Bool.or_true, Bool.true_or, Bool.or_false, Bool.false_or, Bool.not_true, Bool.not_false, true_and, and_true]
set_option maxRecDepth 20000 in
theorem l10PortOK_c (h : IH) (n : Int) : ICalls Try.prog 114 [.int .i64 n] h fun r h' => r = .bool (inR n 0 65535) ∧ h' = h := by
  refine icalls (.of ok114) (Nat.le_of_ble_eq_true rfl) ?_
  unfold c114
  simp only [go_sem, Hold.p, HoldK.k, HoldL.K, HoldL.body, Nat.reduceBEq, Nat.reduceAdd, List.getElem?_cons_zero, List.getElem?_cons_succ, Option.bind_some, List.map_cons, List.map_nil, Nat.zero_add, if_true, List.getD_cons_zero, List.getD_cons_succ, List.contains_cons, List.contains_nil, Nat.reduceBEq, Bool.or_true, Bool.true_or, Bool.or_false, Bool.false_or, Bool.not_true, Bool.not_false, true_and, and_true]
  refine callA_of (l01In_c h n 0 65535) ?_
  rintro r h' ⟨rfl, rfl⟩
  simp only [go_sem, Hold.p, HoldK.k, HoldL.K, HoldL.body, Nat.reduceBEq, Nat.reduceAdd, List.getElem?_cons_zero, List.getElem?_cons_succ, Option.bind_some, List.map_cons, List.map_nil, Nat.zero_add, if_true, List.getD_cons_zero, List.getD_cons_succ, List.contains_cons, List.contains_nil, Nat.reduceBEq, Bool.or_true, Bool.true_or, Bool.or_false, Bool.false_or, Bool.not_true, Bool.not_false, true_and, and_true]
set_option maxRecDepth 20000 in
theorem l02AddrOK_c (h : IH) (n : Int) : ICalls Try.prog 29 [.int .i64 n] h fun r h' => r = .bool (okA n) ∧ h' = h := by
  refine icalls (.of ok29) (Nat.le_of_ble_eq_true rfl) ?_
  unfold c29
  simp only [go_sem, Hold.p, HoldK.k, HoldL.K, HoldL.body, Nat.reduceBEq, Nat.reduceAdd, List.getElem?_cons_zero, List.getElem?_cons_succ, Option.bind_some, List.map_cons, List.map_nil, Nat.zero_add, if_true, List.getD_cons_zero, List.getD_cons_succ, List.contains_cons, List.contains_nil, Nat.reduceBEq, Bool.or_true, Bool.true_or, Bool.or_false, Bool.false_or, Bool.not_true, Bool.not_false, true_and, and_true]
  refine callA_of (l01In_c h n 0 4294967295) ?_
  rintro r h' ⟨rfl, rfl⟩
  simp only [okA, inR, go_sem, Hold.p, HoldK.k, HoldL.K, HoldL.body, Nat.reduceBEq, Nat.reduceAdd, List.getElem?_cons_zero, List.getElem?_cons_succ, Option.bind_some, List.map_cons, List.map_nil, Nat.zero_add, if_true, List.getD_cons_zero, List.getD_cons_succ, List.contains_cons, List.contains_nil, Nat.reduceBEq, Bool.or_true, Bool.true_or, Bool.or_false, Bool.false_or, Bool.not_true, Bool.not_false, true_and, and_true]
set_option maxRecDepth 20000 in
theorem isAddr_c (h : IH) (n : Int) : ICalls Try.prog 37 [.int .i64 n] h fun r h' => r = .bool (okA n) ∧ h' = h := by
  refine icalls (.of ok37) (Nat.le_of_ble_eq_true rfl) ?_
  unfold c37 okA
  by_cases c1 : 0 ≤ n
  · have d1 : decide (0 ≤ n) = true := decide_eq_true c1
    simp only [d1, Bool.true_and, go_sem, Hold.p, HoldK.k, HoldL.K, HoldL.body, Nat.reduceBEq, Nat.reduceAdd, List.getElem?_cons_zero, List.getElem?_cons_succ, Option.bind_some, List.map_cons, List.map_nil, Nat.zero_add, if_true, List.getD_cons_zero, List.getD_cons_succ, List.contains_cons, List.contains_nil, Nat.reduceBEq, Bool.or_true, Bool.true_or, Bool.or_false, Bool.false_or, Bool.not_true, Bool.not_false, true_and, and_true]
  · have d1 : decide (0 ≤ n) = false := decide_eq_false c1
    simp only [d1, Bool.false_and, go_sem, Hold.p, HoldK.k, HoldL.K, HoldL.body, Nat.reduceBEq, Nat.reduceAdd, List.getElem?_cons_zero, List.getElem?_cons_succ, Option.bind_some, List.map_cons, List.map_nil, Nat.zero_add, if_true, List.getD_cons_zero, List.getD_cons_succ, List.contains_cons, List.contains_nil, Nat.reduceBEq, Bool.or_true, Bool.true_or, Bool.or_false, Bool.false_or, Bool.not_true, Bool.not_false, true_and, and_true]
set_option maxRecDepth 20000 in
theorem isPort_c (h : IH) (n : Int) : ICalls Try.prog 91 [.int .i64 n] h fun r h' => r = .bool (inR n 0 65535) ∧ h' = h := by
  refine icalls (.of ok91) (Nat.le_of_ble_eq_true rfl) ?_
  unfold c91 inR
  by_cases c1 : 0 ≤ n
  · have d1 : decide (0 ≤ n) = true := decide_eq_true c1
    simp only [d1, Bool.true_and, go_sem, Hold.p, HoldK.k, HoldL.K, HoldL.body, Nat.reduceBEq, Nat.reduceAdd, List.getElem?_cons_zero, List.getElem?_cons_succ, Option.bind_some, List.map_cons, List.map_nil, Nat.zero_add, if_true, List.getD_cons_zero, List.getD_cons_succ, List.contains_cons, List.contains_nil, Nat.reduceBEq, Bool.or_true, Bool.true_or, Bool.or_false, Bool.false_or, Bool.not_true, Bool.not_false, true_and, and_true]
  · have d1 : decide (0 ≤ n) = false := decide_eq_false c1
    simp only [d1, Bool.false_and, go_sem, Hold.p, HoldK.k, HoldL.K, HoldL.body, Nat.reduceBEq, Nat.reduceAdd, List.getElem?_cons_zero, List.getElem?_cons_succ, Option.bind_some, List.map_cons, List.map_nil, Nat.zero_add, if_true, List.getD_cons_zero, List.getD_cons_succ, List.contains_cons, List.contains_nil, Nat.reduceBEq, Bool.or_true, Bool.true_or, Bool.or_false, Bool.false_or, Bool.not_true, Bool.not_false, true_and, and_true]
set_option maxRecDepth 20000 in
theorem isMac_c (h : IH) (n : Int) : ICalls Try.prog 38 [.int .i64 n] h fun r h' => r = .bool (inR n 0 281474976710655) ∧ h' = h := by
  refine icalls (.of ok38) (Nat.le_of_ble_eq_true rfl) ?_
  unfold c38 inR
  by_cases c1 : 0 ≤ n
  · have d1 : decide (0 ≤ n) = true := decide_eq_true c1
    simp only [d1, Bool.true_and, go_sem, Hold.p, HoldK.k, HoldL.K, HoldL.body, Nat.reduceBEq, Nat.reduceAdd, List.getElem?_cons_zero, List.getElem?_cons_succ, Option.bind_some, List.map_cons, List.map_nil, Nat.zero_add, if_true, List.getD_cons_zero, List.getD_cons_succ, List.contains_cons, List.contains_nil, Nat.reduceBEq, Bool.or_true, Bool.true_or, Bool.or_false, Bool.false_or, Bool.not_true, Bool.not_false, true_and, and_true]
  · have d1 : decide (0 ≤ n) = false := decide_eq_false c1
    simp only [d1, Bool.false_and, go_sem, Hold.p, HoldK.k, HoldL.K, HoldL.body, Nat.reduceBEq, Nat.reduceAdd, List.getElem?_cons_zero, List.getElem?_cons_succ, Option.bind_some, List.map_cons, List.map_nil, Nat.zero_add, if_true, List.getD_cons_zero, List.getD_cons_succ, List.contains_cons, List.contains_nil, Nat.reduceBEq, Bool.or_true, Bool.true_or, Bool.or_false, Bool.false_or, Bool.not_true, Bool.not_false, true_and, and_true]

set_option maxRecDepth 20000 in
theorem l02Size_c (h : IH) (b : Int) (hb : 0 ≤ b ∧ b ≤ 32) : ICalls Try.prog 113 [.int .i64 b] h fun r h' => r = .int .i64 (sizeP b) ∧ h' = h := by
  refine icalls (.of ok113) (Nat.le_of_ble_eq_true rfl) ?_
  unfold c113
  simp only [go_sem, Hold.p, HoldK.k, HoldL.K, HoldL.body, Nat.reduceBEq, Nat.reduceAdd, List.getElem?_cons_zero, List.getElem?_cons_succ, Option.bind_some, List.map_cons, List.map_nil, Nat.zero_add, if_true, List.getD_cons_zero, List.getD_cons_succ, List.contains_cons, List.contains_nil, Nat.reduceBEq, Bool.or_true, Bool.true_or, Bool.or_false, Bool.false_or, Bool.not_true, Bool.not_false, true_and, and_true]
  refine loop_at (fun n e h' => ∃ j : Nat, n = 32 - b.toNat - j ∧ j ≤ 32 - b.toNat ∧ e 3 = .int .i64 (2 ^ j) ∧ e 4 = .int .i64 (b + j) ∧ h' = h) (32 - b.toNat) ?_ ?_
  · refine ⟨0, by omega, by omega, ?_⟩
    simp only [go_sem, Hold.p, HoldK.k, HoldL.K, HoldL.body, Nat.reduceBEq, Nat.reduceAdd, List.getElem?_cons_zero, List.getElem?_cons_succ, Option.bind_some, List.map_cons, List.map_nil, Nat.zero_add, if_true, List.getD_cons_zero, List.getD_cons_succ, List.contains_cons, List.contains_nil, Nat.reduceBEq, Bool.or_true, Bool.true_or, Bool.or_false, Bool.false_or, Bool.not_true, Bool.not_false, true_and, and_true]
    simp
  · rintro n e h' ⟨j, rfl, hj, e3, e4, rfl⟩
    simp only [e3, e4, go_sem, Hold.p, HoldK.k, HoldL.K, HoldL.body, Nat.reduceBEq, Nat.reduceAdd, List.getElem?_cons_zero, List.getElem?_cons_succ, Option.bind_some, List.map_cons, List.map_nil, Nat.zero_add, if_true, List.getD_cons_zero, List.getD_cons_succ, List.contains_cons, List.contains_nil, Nat.reduceBEq, Bool.or_true, Bool.true_or, Bool.or_false, Bool.false_or, Bool.not_true, Bool.not_false, true_and, and_true]
    refine test_dec (fun hlt => ?_) (fun hlt => ?_)
    · have h1 : (2 : Nat) ^ j ≤ 2 ^ 32 := Nat.pow_le_pow_right (by decide) (by omega)
      have h2 := pow_le32 (j := j) (by omega)
      have h3 : (0 : Int) < 2 ^ j := Int.pow_pos (by decide)
      have w1 : wr .i64 ((2 : Int) ^ j * 2) = 2 ^ (j + 1) := by rw [Int.pow_succ, wr64 _ (by omega)]
      have w2 : wr .i64 (b + (j : Int) + 1) = b + ((j + 1 : Nat) : Int) := by rw [wr64 _ (by omega)]; omega
      simp only [e3, e4, w1, w2, go_sem, Hold.p, HoldK.k, HoldL.K, HoldL.body, Nat.reduceBEq, Nat.reduceAdd, List.getElem?_cons_zero, List.getElem?_cons_succ, Option.bind_some, List.map_cons, List.map_nil, Nat.zero_add, if_true, List.getD_cons_zero, List.getD_cons_succ, List.contains_cons, List.contains_nil, Nat.reduceBEq, Bool.or_true, Bool.true_or, Bool.or_false, Bool.false_or, Bool.not_true, Bool.not_false, true_and, and_true]
      exact ⟨_, by omega, j + 1, rfl, by omega, rfl, rfl⟩
    · obtain rfl : j = 32 - b.toNat := by omega
      simp only [e3, go_sem, Hold.p, HoldK.k, HoldL.K, HoldL.body, Nat.reduceBEq, Nat.reduceAdd, List.getElem?_cons_zero, List.getElem?_cons_succ, Option.bind_some, List.map_cons, List.map_nil, Nat.zero_add, if_true, List.getD_cons_zero, List.getD_cons_succ, List.contains_cons, List.contains_nil, Nat.reduceBEq, Bool.or_true, Bool.true_or, Bool.or_false, Bool.false_or, Bool.not_true, Bool.not_false, true_and, and_true]
      rfl

set_option maxRecDepth 20000 in
theorem mask_c (h : IH) (b : Int) (hb : 0 ≤ b ∧ b ≤ 32) : ICalls Try.prog 90 [.int .i64 b] h fun r h' => r = .int .i64 (4294967296 - sizeP b) ∧ h' = h := by
  refine icalls (.of ok90) (Nat.le_of_ble_eq_true rfl) ?_
  unfold c90
  obtain ⟨p0, p1⟩ := sizeP_pos b
  have w1 : wr .i64 (32 - b) = 32 - b := wr64 _ (by omega)
  have hk : min (32 - b).toNat IntKind.i64.bits = 32 - b.toNat := by
    have : IntKind.i64.bits = 64 := rfl
    rw [this]; omega
  have t1 := ib_shr (k := .i64) (a := 4294967295) (b := 32 - b) .i64 (by omega)
  have t2 := ib_shl (k := .i64) (a := (4294967295 : Int).fdiv (sizeP b)) (b := 32 - b) .i64 (by omega)
  rw [hk] at t1 t2
  have t1 : ibin .shr (.int .i64 4294967295) (.int .i64 (32 - b)) = some (.int .i64 ((4294967295 : Int).fdiv (sizeP b))) := t1
  have e1 : (4294967295 : Int).fdiv (sizeP b) * sizeP b = 4294967296 - sizeP b := by
    have hq : (4294967296 : Int) = 2 ^ b.toNat * sizeP b := by
      unfold sizeP
      rw [← Int.pow_add]
      have : b.toNat + (32 - b.toNat) = 32 := by omega
      rw [this]; rfl
    rw [Int.fdiv_eq_ediv_of_nonneg _ (by omega)]
    have h2 : (4294967295 : Int) = (2 ^ b.toNat - 1) * sizeP b + (sizeP b - 1) := by
      rw [Int.sub_mul, ← hq]; omega
    have h3 : (4294967295 : Int) / sizeP b = 2 ^ b.toNat - 1 := by
      rw [h2, Int.mul_comm, Int.mul_add_ediv_left _ _ (by omega), Int.ediv_eq_zero_of_lt (by omega) (by omega)]; omega
    rw [h3, Int.sub_mul, ← hq]; omega
  have t2 : ibin .shl (.int .i64 ((4294967295 : Int).fdiv (sizeP b))) (.int .i64 (32 - b)) = some (.int .i64 (4294967296 - sizeP b)) := by
    rw [t2]
    show some (IV.int .i64 (wr .i64 ((4294967295 : Int).fdiv (sizeP b) * sizeP b))) = _
    rw [e1, wr64 _ (by omega)]
  simp only [w1, t1, t2, go_sem, Hold.p, HoldK.k, HoldL.K, HoldL.body, Nat.reduceBEq, Nat.reduceAdd, List.getElem?_cons_zero, List.getElem?_cons_succ, Option.bind_some, List.map_cons, List.map_nil, Nat.zero_add, if_true, List.getD_cons_zero, List.getD_cons_succ, List.contains_cons, List.contains_nil, Nat.reduceBEq, Bool.or_true, Bool.true_or, Bool.or_false, Bool.false_or, Bool.not_true, Bool.not_false, true_and, and_true]

set_option maxRecDepth 20000 in
theorem l02PrefixOK_c (h : IH) (a b : Int) : ICalls Try.prog 81 [.agg [.int .i64 a, .int .i64 b]] h fun r h' => r = .bool (okP a b) ∧ Ext h h' := by
  refine icalls (.of ok81) (Nat.le_of_ble_eq_true rfl) ?_
  unfold c81 okP
  simp only [go_sem, Hold.p, HoldK.k, HoldL.K, HoldL.body, Nat.reduceBEq, Nat.reduceAdd, List.getElem?_cons_zero, List.getElem?_cons_succ, Option.bind_some, List.map_cons, List.map_nil, Nat.zero_add, if_true, List.getD_cons_zero, List.getD_cons_succ, List.contains_cons, List.contains_nil, Nat.reduceBEq, Bool.or_true, Bool.true_or, Bool.or_false, Bool.false_or, Bool.not_true, Bool.not_false, true_and, and_true, rowA_whole, push_n, set_n, push_obj, set_obj, set_push, set_push_ne, set_set, Nat.add_assoc, Nat.left_eq_add, Nat.add_eq_left, Nat.add_left_cancel_iff, Nat.reduceEqDiff, stO_1s, stO_ws, boxA_s, one_bool, one_int, one_str, one_ptr, one_nilptr, one_slice, one_eslice, one_nilslice, one_func, one_iface, one_niliface, List.all_cons, List.all_nil, List.length_cons, List.length_nil, Nat.reduceLT, Nat.reduceEqDiff, Nat.reduceLeDiff, Bool.and_true, Nat.one_ne_zero, Nat.succ_ne_zero, reduceIte, if_false, List.getElem?_cons_zero, List.set_cons_zero, List.set_cons_succ]
  generalize hq_g0 : IH.push h (IObj.rows [[IV.int .i64 a, IV.int .i64 b]] 71 2 false) = g0
  have e_g0 : Ext h g0 := by rw [← hq_g0]; exact (Ext.refl _).push _
  have l_g0 : g0.n = h.n + 1 := by rw [← hq_g0]; rfl
  have bb : At g0 h.n (IObj.rows [[IV.int .i64 a, IV.int .i64 b]] 71 2 false) := by rw [← hq_g0]; exact At.new _ _
  clear hq_g0
  refine callA_of (l02AddrOK_c _ a) ?_
  rintro r g1 ⟨rfl, rfl⟩
  cases c1 : okA a
  · simp only [bb.eq, Bool.false_and, go_sem, Hold.p, HoldK.k, HoldL.K, HoldL.body, Nat.reduceBEq, Nat.reduceAdd, List.getElem?_cons_zero, List.getElem?_cons_succ, Option.bind_some, List.map_cons, List.map_nil, Nat.zero_add, if_true, List.getD_cons_zero, List.getD_cons_succ, List.contains_cons, List.contains_nil, Nat.reduceBEq, Bool.or_true, Bool.true_or, Bool.or_false, Bool.false_or, Bool.not_true, Bool.not_false, true_and, and_true, rowA_whole, push_n, set_n, push_obj, set_obj, set_push, set_push_ne, set_set, Nat.add_assoc, Nat.left_eq_add, Nat.add_eq_left, Nat.add_left_cancel_iff, Nat.reduceEqDiff, stO_1s, stO_ws, boxA_s, one_bool, one_int, one_str, one_ptr, one_nilptr, one_slice, one_eslice, one_nilslice, one_func, one_iface, one_niliface, List.all_cons, List.all_nil, List.length_cons, List.length_nil, Nat.reduceLT, Nat.reduceEqDiff, Nat.reduceLeDiff, Bool.and_true, Nat.one_ne_zero, Nat.succ_ne_zero, reduceIte, if_false, List.getElem?_cons_zero, List.set_cons_zero, List.set_cons_succ]
    exact e_g0
  · simp only [bb.eq, Bool.true_and, go_sem, Hold.p, HoldK.k, HoldL.K, HoldL.body, Nat.reduceBEq, Nat.reduceAdd, List.getElem?_cons_zero, List.getElem?_cons_succ, Option.bind_some, List.map_cons, List.map_nil, Nat.zero_add, if_true, List.getD_cons_zero, List.getD_cons_succ, List.contains_cons, List.contains_nil, Nat.reduceBEq, Bool.or_true, Bool.true_or, Bool.or_false, Bool.false_or, Bool.not_true, Bool.not_false, true_and, and_true, rowA_whole, push_n, set_n, push_obj, set_obj, set_push, set_push_ne, set_set, Nat.add_assoc, Nat.left_eq_add, Nat.add_eq_left, Nat.add_left_cancel_iff, Nat.reduceEqDiff, stO_1s, stO_ws, boxA_s, one_bool, one_int, one_str, one_ptr, one_nilptr, one_slice, one_eslice, one_nilslice, one_func, one_iface, one_niliface, List.all_cons, List.all_nil, List.length_cons, List.length_nil, Nat.reduceLT, Nat.reduceEqDiff, Nat.reduceLeDiff, Bool.and_true, Nat.one_ne_zero, Nat.succ_ne_zero, reduceIte, if_false, List.getElem?_cons_zero, List.set_cons_zero, List.set_cons_succ]
    refine callA_of (l01In_c _ b 0 32) ?_
    rintro r g2 ⟨rfl, rfl⟩
    cases c2 : inR b 0 32
    · simp only [bb.eq, Bool.false_and, go_sem, Hold.p, HoldK.k, HoldL.K, HoldL.body, Nat.reduceBEq, Nat.reduceAdd, List.getElem?_cons_zero, List.getElem?_cons_succ, Option.bind_some, List.map_cons, List.map_nil, Nat.zero_add, if_true, List.getD_cons_zero, List.getD_cons_succ, List.contains_cons, List.contains_nil, Nat.reduceBEq, Bool.or_true, Bool.true_or, Bool.or_false, Bool.false_or, Bool.not_true, Bool.not_false, true_and, and_true, rowA_whole, push_n, set_n, push_obj, set_obj, set_push, set_push_ne, set_set, Nat.add_assoc, Nat.left_eq_add, Nat.add_eq_left, Nat.add_left_cancel_iff, Nat.reduceEqDiff, stO_1s, stO_ws, boxA_s, one_bool, one_int, one_str, one_ptr, one_nilptr, one_slice, one_eslice, one_nilslice, one_func, one_iface, one_niliface, List.all_cons, List.all_nil, List.length_cons, List.length_nil, Nat.reduceLT, Nat.reduceEqDiff, Nat.reduceLeDiff, Bool.and_true, Nat.one_ne_zero, Nat.succ_ne_zero, reduceIte, if_false, List.getElem?_cons_zero, List.set_cons_zero, List.set_cons_succ]
      exact e_g0
    · have hb : 0 ≤ b ∧ b ≤ 32 := by unfold inR at c2; simpa using c2
      have t := ib_rem (k := .i64) (a := a) (b := sizeP b) (by have := (sizeP_pos b).1; omega)
      simp only [bb.eq, Bool.true_and, go_sem, Hold.p, HoldK.k, HoldL.K, HoldL.body, Nat.reduceBEq, Nat.reduceAdd, List.getElem?_cons_zero, List.getElem?_cons_succ, Option.bind_some, List.map_cons, List.map_nil, Nat.zero_add, if_true, List.getD_cons_zero, List.getD_cons_succ, List.contains_cons, List.contains_nil, Nat.reduceBEq, Bool.or_true, Bool.true_or, Bool.or_false, Bool.false_or, Bool.not_true, Bool.not_false, true_and, and_true, rowA_whole, push_n, set_n, push_obj, set_obj, set_push, set_push_ne, set_set, Nat.add_assoc, Nat.left_eq_add, Nat.add_eq_left, Nat.add_left_cancel_iff, Nat.reduceEqDiff, stO_1s, stO_ws, boxA_s, one_bool, one_int, one_str, one_ptr, one_nilptr, one_slice, one_eslice, one_nilslice, one_func, one_iface, one_niliface, List.all_cons, List.all_nil, List.length_cons, List.length_nil, Nat.reduceLT, Nat.reduceEqDiff, Nat.reduceLeDiff, Bool.and_true, Nat.one_ne_zero, Nat.succ_ne_zero, reduceIte, if_false, List.getElem?_cons_zero, List.set_cons_zero, List.set_cons_succ]
      refine callA_of (l02Size_c _ b hb) ?_
      rintro r g3 ⟨rfl, rfl⟩
      simp only [bb.eq, Bool.true_and, t, go_sem, Hold.p, HoldK.k, HoldL.K, HoldL.body, Nat.reduceBEq, Nat.reduceAdd, List.getElem?_cons_zero, List.getElem?_cons_succ, Option.bind_some, List.map_cons, List.map_nil, Nat.zero_add, if_true, List.getD_cons_zero, List.getD_cons_succ, List.contains_cons, List.contains_nil, Nat.reduceBEq, Bool.or_true, Bool.true_or, Bool.or_false, Bool.false_or, Bool.not_true, Bool.not_false, true_and, and_true, rowA_whole, push_n, set_n, push_obj, set_obj, set_push, set_push_ne, set_set, Nat.add_assoc, Nat.left_eq_add, Nat.add_eq_left, Nat.add_left_cancel_iff, Nat.reduceEqDiff, stO_1s, stO_ws, boxA_s, one_bool, one_int, one_str, one_ptr, one_nilptr, one_slice, one_eslice, one_nilslice, one_func, one_iface, one_niliface, List.all_cons, List.all_nil, List.length_cons, List.length_nil, Nat.reduceLT, Nat.reduceEqDiff, Nat.reduceLeDiff, Bool.and_true, Nat.one_ne_zero, Nat.succ_ne_zero, reduceIte, if_false, List.getElem?_cons_zero, List.set_cons_zero, List.set_cons_succ]
      exact e_g0
end Go.Proofs.Ytcmcfmgabafljaa

namespace Go.Proofs.Ytcmcfmgabafljaa
open Go Go.IW

/-- The mask finds the prefix. -/
theorem and_prefix {a b : Int} (ha : okA a = true) (hb : inR b 0 32 = true) : IW.bits .and .i64 a (4294967296 - sizeP b) = a - a.tmod (sizeP b) := by
  unfold okA at ha
  simp only [Bool.and_eq_true, decide_eq_true_eq] at ha
  have := and_mask (a := a) (k := 32 - b.toNat) ha.1 ha.2 (by omega)
  rw [Int.tmod_eq_emod_of_nonneg ha.1]
  exact this
theorem and_self {a b : Int} (ha : okA a = true) (hb : inR b 0 32 = true) : decide (IW.bits .and .i64 a (4294967296 - sizeP b) = a) = decide (a.tmod (sizeP b) = 0) := by
  rw [and_prefix ha hb]
  exact decide_eq_decide.2 (by omega)
theorem has_eq {a b x : Int} (hp : okP a b = true) (hx : okA x = true) : decide (IW.bits .and .i64 x (4294967296 - sizeP b) = a) = decide (x.tdiv (sizeP b) = a.tdiv (sizeP b)) := by
  obtain ⟨ha, hb, hd⟩ := okP_ok hp
  have hb' : inR b 0 32 = true := by unfold inR; simp only [Bool.and_eq_true, decide_eq_true_eq]; exact hb
  rw [and_prefix hx hb']
  obtain ⟨p0, p1⟩ := sizeP_pos b
  have h1 := Int.tmod_add_mul_tdiv x (sizeP b)
  have h2 := Int.tmod_add_mul_tdiv a (sizeP b)
  rw [hd] at h2
  apply decide_eq_decide.2
  constructor
  · intro h
    have : sizeP b * x.tdiv (sizeP b) = sizeP b * a.tdiv (sizeP b) := by omega
    exact Int.eq_of_mul_eq_mul_left (by omega) this
  · intro h
    rw [h] at h1; omega
theorem shr24 (a : Int) : ibin .shr (.int .i64 a) (.int .u64 24) = some (.int .i64 (a.fdiv (2 ^ 24))) := ib_shr (k := .i64) (a := a) (b := 24) .u64 (by decide)
theorem shr28 (a : Int) : ibin .shr (.int .i64 a) (.int .u64 28) = some (.int .i64 (a.fdiv (2 ^ 28))) := ib_shr (k := .i64) (a := a) (b := 28) .u64 (by decide)

set_option maxRecDepth 20000 in
theorem specAddrKind_c (h : IH) (a : Int) : ICalls Try.prog 82 [.int .i64 a] h fun r h' => r = .int .i64 (kindA a) ∧ h' = h := by
  refine icalls (.of ok82) (Nat.le_of_ble_eq_true rfl) ?_
  unfold c82 kindA
  simp only [go_sem, Hold.p, HoldK.k, HoldL.K, HoldL.body, Nat.reduceBEq, Nat.reduceAdd, List.getElem?_cons_zero, List.getElem?_cons_succ, Option.bind_some, List.map_cons, List.map_nil, Nat.zero_add, if_true, List.getD_cons_zero, List.getD_cons_succ, List.contains_cons, List.contains_nil, Nat.reduceBEq, Bool.or_true, Bool.true_or, Bool.or_false, Bool.false_or, Bool.not_true, Bool.not_false, true_and, and_true]
  refine callA_of (l02AddrOK_c _ a) ?_
  rintro r g1 ⟨rfl, rfl⟩
  have t1 := shr24 a
  have t2 := shr28 a
  cases c1 : okA a
  · simp only [go_sem, Hold.p, HoldK.k, HoldL.K, HoldL.body, Nat.reduceBEq, Nat.reduceAdd, List.getElem?_cons_zero, List.getElem?_cons_succ, Option.bind_some, List.map_cons, List.map_nil, Nat.zero_add, if_true, List.getD_cons_zero, List.getD_cons_succ, List.contains_cons, List.contains_nil, Nat.reduceBEq, Bool.or_true, Bool.true_or, Bool.or_false, Bool.false_or, Bool.not_true, Bool.not_false, true_and, and_true]
  · rw [if_neg (by decide)]
    by_cases c2 : a = 0
    · have d2 : decide (a = 0) = true := decide_eq_true c2
      simp only [d2, go_sem, Hold.p, HoldK.k, HoldL.K, HoldL.body, Nat.reduceBEq, Nat.reduceAdd, List.getElem?_cons_zero, List.getElem?_cons_succ, Option.bind_some, List.map_cons, List.map_nil, Nat.zero_add, if_true, List.getD_cons_zero, List.getD_cons_succ, List.contains_cons, List.contains_nil, Nat.reduceBEq, Bool.or_true, Bool.true_or, Bool.or_false, Bool.false_or, Bool.not_true, Bool.not_false, true_and, and_true]
      rw [if_pos c2]
    have d2 : decide (a = 0) = false := decide_eq_false c2
    rw [if_neg c2]
    by_cases c3 : a.fdiv (2 ^ 24) = 127
    · have d3 : decide (a.fdiv (2 ^ 24) = 127) = true := decide_eq_true c3
      simp only [d2, t1, d3, go_sem, Hold.p, HoldK.k, HoldL.K, HoldL.body, Nat.reduceBEq, Nat.reduceAdd, List.getElem?_cons_zero, List.getElem?_cons_succ, Option.bind_some, List.map_cons, List.map_nil, Nat.zero_add, if_true, List.getD_cons_zero, List.getD_cons_succ, List.contains_cons, List.contains_nil, Nat.reduceBEq, Bool.or_true, Bool.true_or, Bool.or_false, Bool.false_or, Bool.not_true, Bool.not_false, true_and, and_true]
      rw [if_pos c3]
    have d3 : decide (a.fdiv (2 ^ 24) = 127) = false := decide_eq_false c3
    rw [if_neg c3]
    by_cases c4 : a = 4294967295
    · have d4 : decide (a = 4294967295) = true := decide_eq_true c4
      simp only [d2, t1, d3, d4, go_sem, Hold.p, HoldK.k, HoldL.K, HoldL.body, Nat.reduceBEq, Nat.reduceAdd, List.getElem?_cons_zero, List.getElem?_cons_succ, Option.bind_some, List.map_cons, List.map_nil, Nat.zero_add, if_true, List.getD_cons_zero, List.getD_cons_succ, List.contains_cons, List.contains_nil, Nat.reduceBEq, Bool.or_true, Bool.true_or, Bool.or_false, Bool.false_or, Bool.not_true, Bool.not_false, true_and, and_true]
      rw [if_pos c4]
    have d4 : decide (a = 4294967295) = false := decide_eq_false c4
    rw [if_neg c4]
    by_cases c5 : a.fdiv (2 ^ 28) = 14
    · have d5 : decide (a.fdiv (2 ^ 28) = 14) = true := decide_eq_true c5
      simp only [d2, t1, t2, d3, d4, d5, go_sem, Hold.p, HoldK.k, HoldL.K, HoldL.body, Nat.reduceBEq, Nat.reduceAdd, List.getElem?_cons_zero, List.getElem?_cons_succ, Option.bind_some, List.map_cons, List.map_nil, Nat.zero_add, if_true, List.getD_cons_zero, List.getD_cons_succ, List.contains_cons, List.contains_nil, Nat.reduceBEq, Bool.or_true, Bool.true_or, Bool.or_false, Bool.false_or, Bool.not_true, Bool.not_false, true_and, and_true]
      rw [if_pos c5]
    have d5 : decide (a.fdiv (2 ^ 28) = 14) = false := decide_eq_false c5
    rw [if_neg c5]
    by_cases c6 : a.fdiv (2 ^ 28) = 15
    · have d6 : decide (a.fdiv (2 ^ 28) = 15) = true := decide_eq_true c6
      simp only [d2, t1, t2, d3, d4, d5, d6, go_sem, Hold.p, HoldK.k, HoldL.K, HoldL.body, Nat.reduceBEq, Nat.reduceAdd, List.getElem?_cons_zero, List.getElem?_cons_succ, Option.bind_some, List.map_cons, List.map_nil, Nat.zero_add, if_true, List.getD_cons_zero, List.getD_cons_succ, List.contains_cons, List.contains_nil, Nat.reduceBEq, Bool.or_true, Bool.true_or, Bool.or_false, Bool.false_or, Bool.not_true, Bool.not_false, true_and, and_true]
      rw [if_pos c6]
    have d6 : decide (a.fdiv (2 ^ 28) = 15) = false := decide_eq_false c6
    rw [if_neg c6]
    simp only [d2, t1, t2, d3, d4, d5, d6, go_sem, Hold.p, HoldK.k, HoldL.K, HoldL.body, Nat.reduceBEq, Nat.reduceAdd, List.getElem?_cons_zero, List.getElem?_cons_succ, Option.bind_some, List.map_cons, List.map_nil, Nat.zero_add, if_true, List.getD_cons_zero, List.getD_cons_succ, List.contains_cons, List.contains_nil, Nat.reduceBEq, Bool.or_true, Bool.true_or, Bool.or_false, Bool.false_or, Bool.not_true, Bool.not_false, true_and, and_true]

set_option maxRecDepth 20000 in
theorem implAddrKind_c (h : IH) (a : Int) : ICalls Try.prog 40 [.int .i64 a] h fun r h' => r = .int .i64 (kindA a) ∧ h' = h := by
  refine icalls (.of ok40) (Nat.le_of_ble_eq_true rfl) ?_
  unfold c40 kindA
  simp only [go_sem, Hold.p, HoldK.k, HoldL.K, HoldL.body, Nat.reduceBEq, Nat.reduceAdd, List.getElem?_cons_zero, List.getElem?_cons_succ, Option.bind_some, List.map_cons, List.map_nil, Nat.zero_add, if_true, List.getD_cons_zero, List.getD_cons_succ, List.contains_cons, List.contains_nil, Nat.reduceBEq, Bool.or_true, Bool.true_or, Bool.or_false, Bool.false_or, Bool.not_true, Bool.not_false, true_and, and_true]
  refine callA_of (isAddr_c _ a) ?_
  rintro r g1 ⟨rfl, rfl⟩
  have t1 := shr24 a
  have t2 := shr28 a
  cases c1 : okA a
  · simp only [go_sem, Hold.p, HoldK.k, HoldL.K, HoldL.body, Nat.reduceBEq, Nat.reduceAdd, List.getElem?_cons_zero, List.getElem?_cons_succ, Option.bind_some, List.map_cons, List.map_nil, Nat.zero_add, if_true, List.getD_cons_zero, List.getD_cons_succ, List.contains_cons, List.contains_nil, Nat.reduceBEq, Bool.or_true, Bool.true_or, Bool.or_false, Bool.false_or, Bool.not_true, Bool.not_false, true_and, and_true]
  · rw [if_neg (by decide)]
    by_cases c2 : a = 0
    · have d2 : decide (a = 0) = true := decide_eq_true c2
      simp only [d2, go_sem, Hold.p, HoldK.k, HoldL.K, HoldL.body, Nat.reduceBEq, Nat.reduceAdd, List.getElem?_cons_zero, List.getElem?_cons_succ, Option.bind_some, List.map_cons, List.map_nil, Nat.zero_add, if_true, List.getD_cons_zero, List.getD_cons_succ, List.contains_cons, List.contains_nil, Nat.reduceBEq, Bool.or_true, Bool.true_or, Bool.or_false, Bool.false_or, Bool.not_true, Bool.not_false, true_and, and_true]
      rw [if_pos c2]
    have d2 : decide (a = 0) = false := decide_eq_false c2
    rw [if_neg c2]
    by_cases c3 : a.fdiv (2 ^ 24) = 127
    · have d3 : decide (a.fdiv (2 ^ 24) = 127) = true := decide_eq_true c3
      simp only [d2, t1, d3, go_sem, Hold.p, HoldK.k, HoldL.K, HoldL.body, Nat.reduceBEq, Nat.reduceAdd, List.getElem?_cons_zero, List.getElem?_cons_succ, Option.bind_some, List.map_cons, List.map_nil, Nat.zero_add, if_true, List.getD_cons_zero, List.getD_cons_succ, List.contains_cons, List.contains_nil, Nat.reduceBEq, Bool.or_true, Bool.true_or, Bool.or_false, Bool.false_or, Bool.not_true, Bool.not_false, true_and, and_true]
      rw [if_pos c3]
    have d3 : decide (a.fdiv (2 ^ 24) = 127) = false := decide_eq_false c3
    rw [if_neg c3]
    by_cases c4 : a = 4294967295
    · have d4 : decide (a = 4294967295) = true := decide_eq_true c4
      have d5 : decide (a.fdiv (2 ^ 28) = 14) = false := decide_eq_false (by rw [c4]; decide)
      simp only [d2, t1, t2, d3, d4, d5, go_sem, Hold.p, HoldK.k, HoldL.K, HoldL.body, Nat.reduceBEq, Nat.reduceAdd, List.getElem?_cons_zero, List.getElem?_cons_succ, Option.bind_some, List.map_cons, List.map_nil, Nat.zero_add, if_true, List.getD_cons_zero, List.getD_cons_succ, List.contains_cons, List.contains_nil, Nat.reduceBEq, Bool.or_true, Bool.true_or, Bool.or_false, Bool.false_or, Bool.not_true, Bool.not_false, true_and, and_true]
      rw [if_pos c4]
    have d4 : decide (a = 4294967295) = false := decide_eq_false c4
    rw [if_neg c4]
    by_cases c5 : a.fdiv (2 ^ 28) = 14
    · have d5 : decide (a.fdiv (2 ^ 28) = 14) = true := decide_eq_true c5
      simp only [d2, t1, t2, d3, d4, d5, go_sem, Hold.p, HoldK.k, HoldL.K, HoldL.body, Nat.reduceBEq, Nat.reduceAdd, List.getElem?_cons_zero, List.getElem?_cons_succ, Option.bind_some, List.map_cons, List.map_nil, Nat.zero_add, if_true, List.getD_cons_zero, List.getD_cons_succ, List.contains_cons, List.contains_nil, Nat.reduceBEq, Bool.or_true, Bool.true_or, Bool.or_false, Bool.false_or, Bool.not_true, Bool.not_false, true_and, and_true]
      rw [if_pos c5]
    have d5 : decide (a.fdiv (2 ^ 28) = 14) = false := decide_eq_false c5
    rw [if_neg c5]
    by_cases c6 : a.fdiv (2 ^ 28) = 15
    · have d6 : decide (a.fdiv (2 ^ 28) = 15) = true := decide_eq_true c6
      simp only [d2, t1, t2, d3, d4, d5, d6, go_sem, Hold.p, HoldK.k, HoldL.K, HoldL.body, Nat.reduceBEq, Nat.reduceAdd, List.getElem?_cons_zero, List.getElem?_cons_succ, Option.bind_some, List.map_cons, List.map_nil, Nat.zero_add, if_true, List.getD_cons_zero, List.getD_cons_succ, List.contains_cons, List.contains_nil, Nat.reduceBEq, Bool.or_true, Bool.true_or, Bool.or_false, Bool.false_or, Bool.not_true, Bool.not_false, true_and, and_true]
      rw [if_pos c6]
    have d6 : decide (a.fdiv (2 ^ 28) = 15) = false := decide_eq_false c6
    rw [if_neg c6]
    simp only [d2, t1, t2, d3, d4, d5, d6, go_sem, Hold.p, HoldK.k, HoldL.K, HoldL.body, Nat.reduceBEq, Nat.reduceAdd, List.getElem?_cons_zero, List.getElem?_cons_succ, Option.bind_some, List.map_cons, List.map_nil, Nat.zero_add, if_true, List.getD_cons_zero, List.getD_cons_succ, List.contains_cons, List.contains_nil, Nat.reduceBEq, Bool.or_true, Bool.true_or, Bool.or_false, Bool.false_or, Bool.not_true, Bool.not_false, true_and, and_true]

set_option maxRecDepth 20000 in
theorem okPrefix_c (h : IH) (a b : Int) : ICalls Try.prog 39 [.agg [.int .i64 a, .int .i64 b]] h fun r h' => r = .bool (okP a b) ∧ Ext h h' := by
  refine icalls (.of ok39) (Nat.le_of_ble_eq_true rfl) ?_
  unfold c39 okP
  simp only [go_sem, Hold.p, HoldK.k, HoldL.K, HoldL.body, Nat.reduceBEq, Nat.reduceAdd, List.getElem?_cons_zero, List.getElem?_cons_succ, Option.bind_some, List.map_cons, List.map_nil, Nat.zero_add, if_true, List.getD_cons_zero, List.getD_cons_succ, List.contains_cons, List.contains_nil, Nat.reduceBEq, Bool.or_true, Bool.true_or, Bool.or_false, Bool.false_or, Bool.not_true, Bool.not_false, true_and, and_true, rowA_whole, push_n, set_n, push_obj, set_obj, set_push, set_push_ne, set_set, Nat.add_assoc, Nat.left_eq_add, Nat.add_eq_left, Nat.add_left_cancel_iff, Nat.reduceEqDiff, stO_1s, stO_ws, boxA_s, one_bool, one_int, one_str, one_ptr, one_nilptr, one_slice, one_eslice, one_nilslice, one_func, one_iface, one_niliface, List.all_cons, List.all_nil, List.length_cons, List.length_nil, Nat.reduceLT, Nat.reduceEqDiff, Nat.reduceLeDiff, Bool.and_true, Nat.one_ne_zero, Nat.succ_ne_zero, reduceIte, if_false, List.getElem?_cons_zero, List.set_cons_zero, List.set_cons_succ]
  generalize hq_g0 : IH.push h (IObj.rows [[IV.int .i64 a, IV.int .i64 b]] 71 2 false) = g0
  have e_g0 : Ext h g0 := by rw [← hq_g0]; exact (Ext.refl _).push _
  have l_g0 : g0.n = h.n + 1 := by rw [← hq_g0]; rfl
  have bb : At g0 h.n (IObj.rows [[IV.int .i64 a, IV.int .i64 b]] 71 2 false) := by rw [← hq_g0]; exact At.new _ _
  clear hq_g0
  refine callA_of (isAddr_c _ a) ?_
  rintro r g1 ⟨rfl, rfl⟩
  cases c1 : okA a
  · simp only [bb.eq, Bool.false_and, go_sem, Hold.p, HoldK.k, HoldL.K, HoldL.body, Nat.reduceBEq, Nat.reduceAdd, List.getElem?_cons_zero, List.getElem?_cons_succ, Option.bind_some, List.map_cons, List.map_nil, Nat.zero_add, if_true, List.getD_cons_zero, List.getD_cons_succ, List.contains_cons, List.contains_nil, Nat.reduceBEq, Bool.or_true, Bool.true_or, Bool.or_false, Bool.false_or, Bool.not_true, Bool.not_false, true_and, and_true, rowA_whole, push_n, set_n, push_obj, set_obj, set_push, set_push_ne, set_set, Nat.add_assoc, Nat.left_eq_add, Nat.add_eq_left, Nat.add_left_cancel_iff, Nat.reduceEqDiff, stO_1s, stO_ws, boxA_s, one_bool, one_int, one_str, one_ptr, one_nilptr, one_slice, one_eslice, one_nilslice, one_func, one_iface, one_niliface, List.all_cons, List.all_nil, List.length_cons, List.length_nil, Nat.reduceLT, Nat.reduceEqDiff, Nat.reduceLeDiff, Bool.and_true, Nat.one_ne_zero, Nat.succ_ne_zero, reduceIte, if_false, List.getElem?_cons_zero, List.set_cons_zero, List.set_cons_succ]
    exact e_g0
  · cases c2 : inR b 0 32
    · have c2' := c2
      unfold inR at c2'
      by_cases c3 : 0 ≤ b
      · have d3 : decide (0 ≤ b) = true := decide_eq_true c3
        rw [d3, Bool.true_and] at c2'
        simp only [bb.eq, d3, c2', Bool.true_and, Bool.false_and, go_sem, Hold.p, HoldK.k, HoldL.K, HoldL.body, Nat.reduceBEq, Nat.reduceAdd, List.getElem?_cons_zero, List.getElem?_cons_succ, Option.bind_some, List.map_cons, List.map_nil, Nat.zero_add, if_true, List.getD_cons_zero, List.getD_cons_succ, List.contains_cons, List.contains_nil, Nat.reduceBEq, Bool.or_true, Bool.true_or, Bool.or_false, Bool.false_or, Bool.not_true, Bool.not_false, true_and, and_true, rowA_whole, push_n, set_n, push_obj, set_obj, set_push, set_push_ne, set_set, Nat.add_assoc, Nat.left_eq_add, Nat.add_eq_left, Nat.add_left_cancel_iff, Nat.reduceEqDiff, stO_1s, stO_ws, boxA_s, one_bool, one_int, one_str, one_ptr, one_nilptr, one_slice, one_eslice, one_nilslice, one_func, one_iface, one_niliface, List.all_cons, List.all_nil, List.length_cons, List.length_nil, Nat.reduceLT, Nat.reduceEqDiff, Nat.reduceLeDiff, Bool.and_true, Nat.one_ne_zero, Nat.succ_ne_zero, reduceIte, if_false, List.getElem?_cons_zero, List.set_cons_zero, List.set_cons_succ]
        exact e_g0
      · have d3 : decide (0 ≤ b) = false := decide_eq_false c3
        simp only [bb.eq, d3, Bool.true_and, Bool.false_and, go_sem, Hold.p, HoldK.k, HoldL.K, HoldL.body, Nat.reduceBEq, Nat.reduceAdd, List.getElem?_cons_zero, List.getElem?_cons_succ, Option.bind_some, List.map_cons, List.map_nil, Nat.zero_add, if_true, List.getD_cons_zero, List.getD_cons_succ, List.contains_cons, List.contains_nil, Nat.reduceBEq, Bool.or_true, Bool.true_or, Bool.or_false, Bool.false_or, Bool.not_true, Bool.not_false, true_and, and_true, rowA_whole, push_n, set_n, push_obj, set_obj, set_push, set_push_ne, set_set, Nat.add_assoc, Nat.left_eq_add, Nat.add_eq_left, Nat.add_left_cancel_iff, Nat.reduceEqDiff, stO_1s, stO_ws, boxA_s, one_bool, one_int, one_str, one_ptr, one_nilptr, one_slice, one_eslice, one_nilslice, one_func, one_iface, one_niliface, List.all_cons, List.all_nil, List.length_cons, List.length_nil, Nat.reduceLT, Nat.reduceEqDiff, Nat.reduceLeDiff, Bool.and_true, Nat.one_ne_zero, Nat.succ_ne_zero, reduceIte, if_false, List.getElem?_cons_zero, List.set_cons_zero, List.set_cons_succ]
        exact e_g0
    · have hb : 0 ≤ b ∧ b ≤ 32 := by unfold inR at c2; simpa using c2
      have d3 : decide (0 ≤ b) = true := decide_eq_true hb.1
      have d4 : decide (b ≤ 32) = true := decide_eq_true hb.2
      simp only [bb.eq, d3, d4, Bool.true_and, go_sem, Hold.p, HoldK.k, HoldL.K, HoldL.body, Nat.reduceBEq, Nat.reduceAdd, List.getElem?_cons_zero, List.getElem?_cons_succ, Option.bind_some, List.map_cons, List.map_nil, Nat.zero_add, if_true, List.getD_cons_zero, List.getD_cons_succ, List.contains_cons, List.contains_nil, Nat.reduceBEq, Bool.or_true, Bool.true_or, Bool.or_false, Bool.false_or, Bool.not_true, Bool.not_false, true_and, and_true, rowA_whole, push_n, set_n, push_obj, set_obj, set_push, set_push_ne, set_set, Nat.add_assoc, Nat.left_eq_add, Nat.add_eq_left, Nat.add_left_cancel_iff, Nat.reduceEqDiff, stO_1s, stO_ws, boxA_s, one_bool, one_int, one_str, one_ptr, one_nilptr, one_slice, one_eslice, one_nilslice, one_func, one_iface, one_niliface, List.all_cons, List.all_nil, List.length_cons, List.length_nil, Nat.reduceLT, Nat.reduceEqDiff, Nat.reduceLeDiff, Bool.and_true, Nat.one_ne_zero, Nat.succ_ne_zero, reduceIte, if_false, List.getElem?_cons_zero, List.set_cons_zero, List.set_cons_succ]
      refine callA_of (mask_c _ b hb) ?_
      rintro r g3 ⟨rfl, rfl⟩
      simp only [bb.eq, Bool.true_and, and_self c1 c2, go_sem, Hold.p, HoldK.k, HoldL.K, HoldL.body, Nat.reduceBEq, Nat.reduceAdd, List.getElem?_cons_zero, List.getElem?_cons_succ, Option.bind_some, List.map_cons, List.map_nil, Nat.zero_add, if_true, List.getD_cons_zero, List.getD_cons_succ, List.contains_cons, List.contains_nil, Nat.reduceBEq, Bool.or_true, Bool.true_or, Bool.or_false, Bool.false_or, Bool.not_true, Bool.not_false, true_and, and_true, rowA_whole, push_n, set_n, push_obj, set_obj, set_push, set_push_ne, set_set, Nat.add_assoc, Nat.left_eq_add, Nat.add_eq_left, Nat.add_left_cancel_iff, Nat.reduceEqDiff, stO_1s, stO_ws, boxA_s, one_bool, one_int, one_str, one_ptr, one_nilptr, one_slice, one_eslice, one_nilslice, one_func, one_iface, one_niliface, List.all_cons, List.all_nil, List.length_cons, List.length_nil, Nat.reduceLT, Nat.reduceEqDiff, Nat.reduceLeDiff, Bool.and_true, Nat.one_ne_zero, Nat.succ_ne_zero, reduceIte, if_false, List.getElem?_cons_zero, List.set_cons_zero, List.set_cons_succ]
      exact e_g0
end Go.Proofs.Ytcmcfmgabafljaa

namespace Go.Proofs.Ytcmcfmgabafljaa
open Go Go.IW

theorem tdiv_pos_ok {b : Int} : sizeP b ≠ 0 := by have := (sizeP_pos b).1; omega
theorem andNot_mask (b : Int) : IW.bits .andNot .i64 4294967295 (4294967296 - sizeP b) = sizeP b - 1 := by
  unfold sizeP
  have key : ∀ k : Nat, k ≤ 32 → IW.bits .andNot .i64 4294967295 (4294967296 - 2 ^ k) = 2 ^ k - 1 := by
    intro k hk
    have : ∀ k : Fin 33, IW.bits .andNot .i64 4294967295 (4294967296 - 2 ^ k.val) = 2 ^ k.val - 1 := by decide +kernel
    exact this ⟨k, by omega⟩
  exact key _ (by omega)

set_option maxRecDepth 20000 in
theorem specPrefixHas_c (h : IH) (a b x : Int) : ICalls Try.prog 83 [.agg [.int .i64 a, .int .i64 b], .int .i64 x] h fun r h' => r = .bool (hasP a b x) ∧ Ext h h' := by
  refine icalls (.of ok83) (Nat.le_of_ble_eq_true rfl) ?_
  unfold c83 hasP
  simp only [go_sem, Hold.p, HoldK.k, HoldL.K, HoldL.body, Nat.reduceBEq, Nat.reduceAdd, List.getElem?_cons_zero, List.getElem?_cons_succ, Option.bind_some, List.map_cons, List.map_nil, Nat.zero_add, if_true, List.getD_cons_zero, List.getD_cons_succ, List.contains_cons, List.contains_nil, Nat.reduceBEq, Bool.or_true, Bool.true_or, Bool.or_false, Bool.false_or, Bool.not_true, Bool.not_false, true_and, and_true, rowA_whole, push_n, set_n, push_obj, set_obj, set_push, set_push_ne, set_set, Nat.add_assoc, Nat.left_eq_add, Nat.add_eq_left, Nat.add_left_cancel_iff, Nat.reduceEqDiff, stO_1s, stO_ws, boxA_s, one_bool, one_int, one_str, one_ptr, one_nilptr, one_slice, one_eslice, one_nilslice, one_func, one_iface, one_niliface, List.all_cons, List.all_nil, List.length_cons, List.length_nil, Nat.reduceLT, Nat.reduceEqDiff, Nat.reduceLeDiff, Bool.and_true, Nat.one_ne_zero, Nat.succ_ne_zero, reduceIte, if_false, List.getElem?_cons_zero, List.set_cons_zero, List.set_cons_succ]
  generalize hq_g0 : IH.push h (IObj.rows [[IV.int .i64 a, IV.int .i64 b]] 71 2 false) = g0
  have e_g0 : Ext h g0 := by rw [← hq_g0]; exact (Ext.refl _).push _
  have l_g0 : g0.n = h.n + 1 := by rw [← hq_g0]; rfl
  have bb : At g0 h.n (IObj.rows [[IV.int .i64 a, IV.int .i64 b]] 71 2 false) := by rw [← hq_g0]; exact At.new _ _
  clear hq_g0
  have E := e_g0
  try simp only [bb.eq, Bool.true_and, Bool.false_and, Bool.and_true, Bool.and_false, Bool.not_true, Bool.not_false, Bool.true_or, Bool.false_or, Bool.or_true, Bool.or_false, go_sem, Hold.p, HoldK.k, HoldL.K, HoldL.body, Nat.reduceBEq, Nat.reduceAdd, List.getElem?_cons_zero, List.getElem?_cons_succ, Option.bind_some, List.map_cons, List.map_nil, Nat.zero_add, if_true, List.getD_cons_zero, List.getD_cons_succ, List.contains_cons, List.contains_nil, Nat.reduceBEq, Bool.or_true, Bool.true_or, Bool.or_false, Bool.false_or, Bool.not_true, Bool.not_false, true_and, and_true, rowA_whole, push_n, set_n, push_obj, set_obj, set_push, set_push_ne, set_set, Nat.add_assoc, Nat.left_eq_add, Nat.add_eq_left, Nat.add_left_cancel_iff, Nat.reduceEqDiff, stO_1s, stO_ws, boxA_s, one_bool, one_int, one_str, one_ptr, one_nilptr, one_slice, one_eslice, one_nilslice, one_func, one_iface, one_niliface, List.all_cons, List.all_nil, List.length_cons, List.length_nil, Nat.reduceLT, Nat.reduceEqDiff, Nat.reduceLeDiff, Bool.and_true, Nat.one_ne_zero, Nat.succ_ne_zero, reduceIte, if_false, List.getElem?_cons_zero, List.set_cons_zero, List.set_cons_succ]
  refine callA_of (l02PrefixOK_c _ a b) ?_
  rintro r h0 ⟨rfl, E0⟩
  have bb := bb.ext E0
  have E := E.ext E0
  have le_E0 := E0.le
  cases d0 : okP a b
  · skip
    simp only [bb.eq, Bool.true_and, Bool.false_and, Bool.and_true, Bool.and_false, Bool.not_true, Bool.not_false, Bool.true_or, Bool.false_or, Bool.or_true, Bool.or_false, d0, go_sem, Hold.p, HoldK.k, HoldL.K, HoldL.body, Nat.reduceBEq, Nat.reduceAdd, List.getElem?_cons_zero, List.getElem?_cons_succ, Option.bind_some, List.map_cons, List.map_nil, Nat.zero_add, if_true, List.getD_cons_zero, List.getD_cons_succ, List.contains_cons, List.contains_nil, Nat.reduceBEq, Bool.or_true, Bool.true_or, Bool.or_false, Bool.false_or, Bool.not_true, Bool.not_false, true_and, and_true, rowA_whole, push_n, set_n, push_obj, set_obj, set_push, set_push_ne, set_set, Nat.add_assoc, Nat.left_eq_add, Nat.add_eq_left, Nat.add_left_cancel_iff, Nat.reduceEqDiff, stO_1s, stO_ws, boxA_s, one_bool, one_int, one_str, one_ptr, one_nilptr, one_slice, one_eslice, one_nilslice, one_func, one_iface, one_niliface, List.all_cons, List.all_nil, List.length_cons, List.length_nil, Nat.reduceLT, Nat.reduceEqDiff, Nat.reduceLeDiff, Bool.and_true, Nat.one_ne_zero, Nat.succ_ne_zero, reduceIte, if_false, List.getElem?_cons_zero, List.set_cons_zero, List.set_cons_succ]
    exact E
  try simp only [bb.eq, Bool.true_and, Bool.false_and, Bool.and_true, Bool.and_false, Bool.not_true, Bool.not_false, Bool.true_or, Bool.false_or, Bool.or_true, Bool.or_false, d0, go_sem, Hold.p, HoldK.k, HoldL.K, HoldL.body, Nat.reduceBEq, Nat.reduceAdd, List.getElem?_cons_zero, List.getElem?_cons_succ, Option.bind_some, List.map_cons, List.map_nil, Nat.zero_add, if_true, List.getD_cons_zero, List.getD_cons_succ, List.contains_cons, List.contains_nil, Nat.reduceBEq, Bool.or_true, Bool.true_or, Bool.or_false, Bool.false_or, Bool.not_true, Bool.not_false, true_and, and_true, rowA_whole, push_n, set_n, push_obj, set_obj, set_push, set_push_ne, set_set, Nat.add_assoc, Nat.left_eq_add, Nat.add_eq_left, Nat.add_left_cancel_iff, Nat.reduceEqDiff, stO_1s, stO_ws, boxA_s, one_bool, one_int, one_str, one_ptr, one_nilptr, one_slice, one_eslice, one_nilslice, one_func, one_iface, one_niliface, List.all_cons, List.all_nil, List.length_cons, List.length_nil, Nat.reduceLT, Nat.reduceEqDiff, Nat.reduceLeDiff, Bool.and_true, Nat.one_ne_zero, Nat.succ_ne_zero, reduceIte, if_false, List.getElem?_cons_zero, List.set_cons_zero, List.set_cons_succ]
  refine callA_of (l02AddrOK_c _ x) ?_
  rintro r h1 ⟨rfl, rfl⟩
  cases d1 : okA x
  · skip
    simp only [bb.eq, Bool.true_and, Bool.false_and, Bool.and_true, Bool.and_false, Bool.not_true, Bool.not_false, Bool.true_or, Bool.false_or, Bool.or_true, Bool.or_false, d0, d1, go_sem, Hold.p, HoldK.k, HoldL.K, HoldL.body, Nat.reduceBEq, Nat.reduceAdd, List.getElem?_cons_zero, List.getElem?_cons_succ, Option.bind_some, List.map_cons, List.map_nil, Nat.zero_add, if_true, List.getD_cons_zero, List.getD_cons_succ, List.contains_cons, List.contains_nil, Nat.reduceBEq, Bool.or_true, Bool.true_or, Bool.or_false, Bool.false_or, Bool.not_true, Bool.not_false, true_and, and_true, rowA_whole, push_n, set_n, push_obj, set_obj, set_push, set_push_ne, set_set, Nat.add_assoc, Nat.left_eq_add, Nat.add_eq_left, Nat.add_left_cancel_iff, Nat.reduceEqDiff, stO_1s, stO_ws, boxA_s, one_bool, one_int, one_str, one_ptr, one_nilptr, one_slice, one_eslice, one_nilslice, one_func, one_iface, one_niliface, List.all_cons, List.all_nil, List.length_cons, List.length_nil, Nat.reduceLT, Nat.reduceEqDiff, Nat.reduceLeDiff, Bool.and_true, Nat.one_ne_zero, Nat.succ_ne_zero, reduceIte, if_false, List.getElem?_cons_zero, List.set_cons_zero, List.set_cons_succ]
    exact E
  have hb := (okP_ok d0).2.1
  have t1 := ib_quo (k := .i64) (a := x) (b := sizeP b) tdiv_pos_ok
  have t2 := ib_quo (k := .i64) (a := a) (b := sizeP b) tdiv_pos_ok
  have hx : 0 ≤ x ∧ x ≤ 4294967295 := by unfold okA at d1; simpa using d1
  have ha := (okP_ok d0).1
  have p0 := (sizeP_pos b).1
  have q1 : wr .i64 (x.tdiv (sizeP b)) = x.tdiv (sizeP b) := by rw [Int.tdiv_eq_ediv_of_nonneg hx.1]; have h1 := Int.ediv_le_self (sizeP b) hx.1; have h2 := Int.ediv_nonneg hx.1 (Int.le_of_lt p0); exact wr64 _ (by omega)
  have q2 : wr .i64 (a.tdiv (sizeP b)) = a.tdiv (sizeP b) := by rw [Int.tdiv_eq_ediv_of_nonneg ha.1]; have h1 := Int.ediv_le_self (sizeP b) ha.1; have h2 := Int.ediv_nonneg ha.1 (Int.le_of_lt p0); exact wr64 _ (by omega)
  rw [q1] at t1
  rw [q2] at t2
  simp only [bb.eq, Bool.true_and, Bool.false_and, Bool.and_true, Bool.and_false, Bool.not_true, Bool.not_false, Bool.true_or, Bool.false_or, Bool.or_true, Bool.or_false, d0, d1, go_sem, Hold.p, HoldK.k, HoldL.K, HoldL.body, Nat.reduceBEq, Nat.reduceAdd, List.getElem?_cons_zero, List.getElem?_cons_succ, Option.bind_some, List.map_cons, List.map_nil, Nat.zero_add, if_true, List.getD_cons_zero, List.getD_cons_succ, List.contains_cons, List.contains_nil, Nat.reduceBEq, Bool.or_true, Bool.true_or, Bool.or_false, Bool.false_or, Bool.not_true, Bool.not_false, true_and, and_true, rowA_whole, push_n, set_n, push_obj, set_obj, set_push, set_push_ne, set_set, Nat.add_assoc, Nat.left_eq_add, Nat.add_eq_left, Nat.add_left_cancel_iff, Nat.reduceEqDiff, stO_1s, stO_ws, boxA_s, one_bool, one_int, one_str, one_ptr, one_nilptr, one_slice, one_eslice, one_nilslice, one_func, one_iface, one_niliface, List.all_cons, List.all_nil, List.length_cons, List.length_nil, Nat.reduceLT, Nat.reduceEqDiff, Nat.reduceLeDiff, Bool.and_true, Nat.one_ne_zero, Nat.succ_ne_zero, reduceIte, if_false, List.getElem?_cons_zero, List.set_cons_zero, List.set_cons_succ]
  refine callA_of (l02Size_c _ b hb) ?_
  rintro r h3 ⟨rfl, rfl⟩
  simp only [bb.eq, Bool.true_and, Bool.false_and, Bool.and_true, Bool.and_false, Bool.not_true, Bool.not_false, Bool.true_or, Bool.false_or, Bool.or_true, Bool.or_false, d0, d1, t1, t2, go_sem, Hold.p, HoldK.k, HoldL.K, HoldL.body, Nat.reduceBEq, Nat.reduceAdd, List.getElem?_cons_zero, List.getElem?_cons_succ, Option.bind_some, List.map_cons, List.map_nil, Nat.zero_add, if_true, List.getD_cons_zero, List.getD_cons_succ, List.contains_cons, List.contains_nil, Nat.reduceBEq, Bool.or_true, Bool.true_or, Bool.or_false, Bool.false_or, Bool.not_true, Bool.not_false, true_and, and_true, rowA_whole, push_n, set_n, push_obj, set_obj, set_push, set_push_ne, set_set, Nat.add_assoc, Nat.left_eq_add, Nat.add_eq_left, Nat.add_left_cancel_iff, Nat.reduceEqDiff, stO_1s, stO_ws, boxA_s, one_bool, one_int, one_str, one_ptr, one_nilptr, one_slice, one_eslice, one_nilslice, one_func, one_iface, one_niliface, List.all_cons, List.all_nil, List.length_cons, List.length_nil, Nat.reduceLT, Nat.reduceEqDiff, Nat.reduceLeDiff, Bool.and_true, Nat.one_ne_zero, Nat.succ_ne_zero, reduceIte, if_false, List.getElem?_cons_zero, List.set_cons_zero, List.set_cons_succ]
  refine callA_of (l02Size_c _ b hb) ?_
  rintro r h4 ⟨rfl, rfl⟩
  simp only [bb.eq, Bool.true_and, Bool.false_and, Bool.and_true, Bool.and_false, Bool.not_true, Bool.not_false, Bool.true_or, Bool.false_or, Bool.or_true, Bool.or_false, d0, d1, t1, t2, go_sem, Hold.p, HoldK.k, HoldL.K, HoldL.body, Nat.reduceBEq, Nat.reduceAdd, List.getElem?_cons_zero, List.getElem?_cons_succ, Option.bind_some, List.map_cons, List.map_nil, Nat.zero_add, if_true, List.getD_cons_zero, List.getD_cons_succ, List.contains_cons, List.contains_nil, Nat.reduceBEq, Bool.or_true, Bool.true_or, Bool.or_false, Bool.false_or, Bool.not_true, Bool.not_false, true_and, and_true, rowA_whole, push_n, set_n, push_obj, set_obj, set_push, set_push_ne, set_set, Nat.add_assoc, Nat.left_eq_add, Nat.add_eq_left, Nat.add_left_cancel_iff, Nat.reduceEqDiff, stO_1s, stO_ws, boxA_s, one_bool, one_int, one_str, one_ptr, one_nilptr, one_slice, one_eslice, one_nilslice, one_func, one_iface, one_niliface, List.all_cons, List.all_nil, List.length_cons, List.length_nil, Nat.reduceLT, Nat.reduceEqDiff, Nat.reduceLeDiff, Bool.and_true, Nat.one_ne_zero, Nat.succ_ne_zero, reduceIte, if_false, List.getElem?_cons_zero, List.set_cons_zero, List.set_cons_succ]
  exact E

set_option maxRecDepth 20000 in
theorem implPrefixHas_c (h : IH) (a b x : Int) : ICalls Try.prog 41 [.agg [.int .i64 a, .int .i64 b], .int .i64 x] h fun r h' => r = .bool (hasP a b x) ∧ Ext h h' := by
  refine icalls (.of ok41) (Nat.le_of_ble_eq_true rfl) ?_
  unfold c41 hasP
  simp only [go_sem, Hold.p, HoldK.k, HoldL.K, HoldL.body, Nat.reduceBEq, Nat.reduceAdd, List.getElem?_cons_zero, List.getElem?_cons_succ, Option.bind_some, List.map_cons, List.map_nil, Nat.zero_add, if_true, List.getD_cons_zero, List.getD_cons_succ, List.contains_cons, List.contains_nil, Nat.reduceBEq, Bool.or_true, Bool.true_or, Bool.or_false, Bool.false_or, Bool.not_true, Bool.not_false, true_and, and_true, rowA_whole, push_n, set_n, push_obj, set_obj, set_push, set_push_ne, set_set, Nat.add_assoc, Nat.left_eq_add, Nat.add_eq_left, Nat.add_left_cancel_iff, Nat.reduceEqDiff, stO_1s, stO_ws, boxA_s, one_bool, one_int, one_str, one_ptr, one_nilptr, one_slice, one_eslice, one_nilslice, one_func, one_iface, one_niliface, List.all_cons, List.all_nil, List.length_cons, List.length_nil, Nat.reduceLT, Nat.reduceEqDiff, Nat.reduceLeDiff, Bool.and_true, Nat.one_ne_zero, Nat.succ_ne_zero, reduceIte, if_false, List.getElem?_cons_zero, List.set_cons_zero, List.set_cons_succ]
  generalize hq_g0 : IH.push h (IObj.rows [[IV.int .i64 a, IV.int .i64 b]] 71 2 false) = g0
  have e_g0 : Ext h g0 := by rw [← hq_g0]; exact (Ext.refl _).push _
  have l_g0 : g0.n = h.n + 1 := by rw [← hq_g0]; rfl
  have bb : At g0 h.n (IObj.rows [[IV.int .i64 a, IV.int .i64 b]] 71 2 false) := by rw [← hq_g0]; exact At.new _ _
  clear hq_g0
  have E := e_g0
  try simp only [bb.eq, Bool.true_and, Bool.false_and, Bool.and_true, Bool.and_false, Bool.not_true, Bool.not_false, Bool.true_or, Bool.false_or, Bool.or_true, Bool.or_false, go_sem, Hold.p, HoldK.k, HoldL.K, HoldL.body, Nat.reduceBEq, Nat.reduceAdd, List.getElem?_cons_zero, List.getElem?_cons_succ, Option.bind_some, List.map_cons, List.map_nil, Nat.zero_add, if_true, List.getD_cons_zero, List.getD_cons_succ, List.contains_cons, List.contains_nil, Nat.reduceBEq, Bool.or_true, Bool.true_or, Bool.or_false, Bool.false_or, Bool.not_true, Bool.not_false, true_and, and_true, rowA_whole, push_n, set_n, push_obj, set_obj, set_push, set_push_ne, set_set, Nat.add_assoc, Nat.left_eq_add, Nat.add_eq_left, Nat.add_left_cancel_iff, Nat.reduceEqDiff, stO_1s, stO_ws, boxA_s, one_bool, one_int, one_str, one_ptr, one_nilptr, one_slice, one_eslice, one_nilslice, one_func, one_iface, one_niliface, List.all_cons, List.all_nil, List.length_cons, List.length_nil, Nat.reduceLT, Nat.reduceEqDiff, Nat.reduceLeDiff, Bool.and_true, Nat.one_ne_zero, Nat.succ_ne_zero, reduceIte, if_false, List.getElem?_cons_zero, List.set_cons_zero, List.set_cons_succ]
  refine callA_of (okPrefix_c _ a b) ?_
  rintro r h0 ⟨rfl, E0⟩
  have bb := bb.ext E0
  have E := E.ext E0
  have le_E0 := E0.le
  cases d0 : okP a b
  · skip
    simp only [bb.eq, Bool.true_and, Bool.false_and, Bool.and_true, Bool.and_false, Bool.not_true, Bool.not_false, Bool.true_or, Bool.false_or, Bool.or_true, Bool.or_false, d0, go_sem, Hold.p, HoldK.k, HoldL.K, HoldL.body, Nat.reduceBEq, Nat.reduceAdd, List.getElem?_cons_zero, List.getElem?_cons_succ, Option.bind_some, List.map_cons, List.map_nil, Nat.zero_add, if_true, List.getD_cons_zero, List.getD_cons_succ, List.contains_cons, List.contains_nil, Nat.reduceBEq, Bool.or_true, Bool.true_or, Bool.or_false, Bool.false_or, Bool.not_true, Bool.not_false, true_and, and_true, rowA_whole, push_n, set_n, push_obj, set_obj, set_push, set_push_ne, set_set, Nat.add_assoc, Nat.left_eq_add, Nat.add_eq_left, Nat.add_left_cancel_iff, Nat.reduceEqDiff, stO_1s, stO_ws, boxA_s, one_bool, one_int, one_str, one_ptr, one_nilptr, one_slice, one_eslice, one_nilslice, one_func, one_iface, one_niliface, List.all_cons, List.all_nil, List.length_cons, List.length_nil, Nat.reduceLT, Nat.reduceEqDiff, Nat.reduceLeDiff, Bool.and_true, Nat.one_ne_zero, Nat.succ_ne_zero, reduceIte, if_false, List.getElem?_cons_zero, List.set_cons_zero, List.set_cons_succ]
    exact E
  try simp only [bb.eq, Bool.true_and, Bool.false_and, Bool.and_true, Bool.and_false, Bool.not_true, Bool.not_false, Bool.true_or, Bool.false_or, Bool.or_true, Bool.or_false, d0, go_sem, Hold.p, HoldK.k, HoldL.K, HoldL.body, Nat.reduceBEq, Nat.reduceAdd, List.getElem?_cons_zero, List.getElem?_cons_succ, Option.bind_some, List.map_cons, List.map_nil, Nat.zero_add, if_true, List.getD_cons_zero, List.getD_cons_succ, List.contains_cons, List.contains_nil, Nat.reduceBEq, Bool.or_true, Bool.true_or, Bool.or_false, Bool.false_or, Bool.not_true, Bool.not_false, true_and, and_true, rowA_whole, push_n, set_n, push_obj, set_obj, set_push, set_push_ne, set_set, Nat.add_assoc, Nat.left_eq_add, Nat.add_eq_left, Nat.add_left_cancel_iff, Nat.reduceEqDiff, stO_1s, stO_ws, boxA_s, one_bool, one_int, one_str, one_ptr, one_nilptr, one_slice, one_eslice, one_nilslice, one_func, one_iface, one_niliface, List.all_cons, List.all_nil, List.length_cons, List.length_nil, Nat.reduceLT, Nat.reduceEqDiff, Nat.reduceLeDiff, Bool.and_true, Nat.one_ne_zero, Nat.succ_ne_zero, reduceIte, if_false, List.getElem?_cons_zero, List.set_cons_zero, List.set_cons_succ]
  refine callA_of (isAddr_c _ x) ?_
  rintro r h1 ⟨rfl, rfl⟩
  cases d1 : okA x
  · skip
    simp only [bb.eq, Bool.true_and, Bool.false_and, Bool.and_true, Bool.and_false, Bool.not_true, Bool.not_false, Bool.true_or, Bool.false_or, Bool.or_true, Bool.or_false, d0, d1, go_sem, Hold.p, HoldK.k, HoldL.K, HoldL.body, Nat.reduceBEq, Nat.reduceAdd, List.getElem?_cons_zero, List.getElem?_cons_succ, Option.bind_some, List.map_cons, List.map_nil, Nat.zero_add, if_true, List.getD_cons_zero, List.getD_cons_succ, List.contains_cons, List.contains_nil, Nat.reduceBEq, Bool.or_true, Bool.true_or, Bool.or_false, Bool.false_or, Bool.not_true, Bool.not_false, true_and, and_true, rowA_whole, push_n, set_n, push_obj, set_obj, set_push, set_push_ne, set_set, Nat.add_assoc, Nat.left_eq_add, Nat.add_eq_left, Nat.add_left_cancel_iff, Nat.reduceEqDiff, stO_1s, stO_ws, boxA_s, one_bool, one_int, one_str, one_ptr, one_nilptr, one_slice, one_eslice, one_nilslice, one_func, one_iface, one_niliface, List.all_cons, List.all_nil, List.length_cons, List.length_nil, Nat.reduceLT, Nat.reduceEqDiff, Nat.reduceLeDiff, Bool.and_true, Nat.one_ne_zero, Nat.succ_ne_zero, reduceIte, if_false, List.getElem?_cons_zero, List.set_cons_zero, List.set_cons_succ]
    exact E
  have hb := (okP_ok d0).2.1
  have he := has_eq d0 d1
  simp only [bb.eq, Bool.true_and, Bool.false_and, Bool.and_true, Bool.and_false, Bool.not_true, Bool.not_false, Bool.true_or, Bool.false_or, Bool.or_true, Bool.or_false, d0, d1, go_sem, Hold.p, HoldK.k, HoldL.K, HoldL.body, Nat.reduceBEq, Nat.reduceAdd, List.getElem?_cons_zero, List.getElem?_cons_succ, Option.bind_some, List.map_cons, List.map_nil, Nat.zero_add, if_true, List.getD_cons_zero, List.getD_cons_succ, List.contains_cons, List.contains_nil, Nat.reduceBEq, Bool.or_true, Bool.true_or, Bool.or_false, Bool.false_or, Bool.not_true, Bool.not_false, true_and, and_true, rowA_whole, push_n, set_n, push_obj, set_obj, set_push, set_push_ne, set_set, Nat.add_assoc, Nat.left_eq_add, Nat.add_eq_left, Nat.add_left_cancel_iff, Nat.reduceEqDiff, stO_1s, stO_ws, boxA_s, one_bool, one_int, one_str, one_ptr, one_nilptr, one_slice, one_eslice, one_nilslice, one_func, one_iface, one_niliface, List.all_cons, List.all_nil, List.length_cons, List.length_nil, Nat.reduceLT, Nat.reduceEqDiff, Nat.reduceLeDiff, Bool.and_true, Nat.one_ne_zero, Nat.succ_ne_zero, reduceIte, if_false, List.getElem?_cons_zero, List.set_cons_zero, List.set_cons_succ]
  refine callA_of (mask_c _ b hb) ?_
  rintro r h3 ⟨rfl, rfl⟩
  simp only [bb.eq, Bool.true_and, Bool.false_and, Bool.and_true, Bool.and_false, Bool.not_true, Bool.not_false, Bool.true_or, Bool.false_or, Bool.or_true, Bool.or_false, d0, d1, he, go_sem, Hold.p, HoldK.k, HoldL.K, HoldL.body, Nat.reduceBEq, Nat.reduceAdd, List.getElem?_cons_zero, List.getElem?_cons_succ, Option.bind_some, List.map_cons, List.map_nil, Nat.zero_add, if_true, List.getD_cons_zero, List.getD_cons_succ, List.contains_cons, List.contains_nil, Nat.reduceBEq, Bool.or_true, Bool.true_or, Bool.or_false, Bool.false_or, Bool.not_true, Bool.not_false, true_and, and_true, rowA_whole, push_n, set_n, push_obj, set_obj, set_push, set_push_ne, set_set, Nat.add_assoc, Nat.left_eq_add, Nat.add_eq_left, Nat.add_left_cancel_iff, Nat.reduceEqDiff, stO_1s, stO_ws, boxA_s, one_bool, one_int, one_str, one_ptr, one_nilptr, one_slice, one_eslice, one_nilslice, one_func, one_iface, one_niliface, List.all_cons, List.all_nil, List.length_cons, List.length_nil, Nat.reduceLT, Nat.reduceEqDiff, Nat.reduceLeDiff, Bool.and_true, Nat.one_ne_zero, Nat.succ_ne_zero, reduceIte, if_false, List.getElem?_cons_zero, List.set_cons_zero, List.set_cons_succ]
  exact E

set_option maxRecDepth 20000 in
theorem specBroadcast_c (h : IH) (a b : Int) : ICalls Try.prog 84 [.agg [.int .i64 a, .int .i64 b]] h fun r h' => r = .int .i64 (bcast a b) ∧ Ext h h' := by
  refine icalls (.of ok84) (Nat.le_of_ble_eq_true rfl) ?_
  unfold c84 bcast
  simp only [go_sem, Hold.p, HoldK.k, HoldL.K, HoldL.body, Nat.reduceBEq, Nat.reduceAdd, List.getElem?_cons_zero, List.getElem?_cons_succ, Option.bind_some, List.map_cons, List.map_nil, Nat.zero_add, if_true, List.getD_cons_zero, List.getD_cons_succ, List.contains_cons, List.contains_nil, Nat.reduceBEq, Bool.or_true, Bool.true_or, Bool.or_false, Bool.false_or, Bool.not_true, Bool.not_false, true_and, and_true, rowA_whole, push_n, set_n, push_obj, set_obj, set_push, set_push_ne, set_set, Nat.add_assoc, Nat.left_eq_add, Nat.add_eq_left, Nat.add_left_cancel_iff, Nat.reduceEqDiff, stO_1s, stO_ws, boxA_s, one_bool, one_int, one_str, one_ptr, one_nilptr, one_slice, one_eslice, one_nilslice, one_func, one_iface, one_niliface, List.all_cons, List.all_nil, List.length_cons, List.length_nil, Nat.reduceLT, Nat.reduceEqDiff, Nat.reduceLeDiff, Bool.and_true, Nat.one_ne_zero, Nat.succ_ne_zero, reduceIte, if_false, List.getElem?_cons_zero, List.set_cons_zero, List.set_cons_succ]
  generalize hq_g0 : IH.push h (IObj.rows [[IV.int .i64 a, IV.int .i64 b]] 71 2 false) = g0
  have e_g0 : Ext h g0 := by rw [← hq_g0]; exact (Ext.refl _).push _
  have l_g0 : g0.n = h.n + 1 := by rw [← hq_g0]; rfl
  have bb : At g0 h.n (IObj.rows [[IV.int .i64 a, IV.int .i64 b]] 71 2 false) := by rw [← hq_g0]; exact At.new _ _
  clear hq_g0
  have E := e_g0
  try simp only [bb.eq, Bool.true_and, Bool.false_and, Bool.and_true, Bool.and_false, Bool.not_true, Bool.not_false, Bool.true_or, Bool.false_or, Bool.or_true, Bool.or_false, go_sem, Hold.p, HoldK.k, HoldL.K, HoldL.body, Nat.reduceBEq, Nat.reduceAdd, List.getElem?_cons_zero, List.getElem?_cons_succ, Option.bind_some, List.map_cons, List.map_nil, Nat.zero_add, if_true, List.getD_cons_zero, List.getD_cons_succ, List.contains_cons, List.contains_nil, Nat.reduceBEq, Bool.or_true, Bool.true_or, Bool.or_false, Bool.false_or, Bool.not_true, Bool.not_false, true_and, and_true, rowA_whole, push_n, set_n, push_obj, set_obj, set_push, set_push_ne, set_set, Nat.add_assoc, Nat.left_eq_add, Nat.add_eq_left, Nat.add_left_cancel_iff, Nat.reduceEqDiff, stO_1s, stO_ws, boxA_s, one_bool, one_int, one_str, one_ptr, one_nilptr, one_slice, one_eslice, one_nilslice, one_func, one_iface, one_niliface, List.all_cons, List.all_nil, List.length_cons, List.length_nil, Nat.reduceLT, Nat.reduceEqDiff, Nat.reduceLeDiff, Bool.and_true, Nat.one_ne_zero, Nat.succ_ne_zero, reduceIte, if_false, List.getElem?_cons_zero, List.set_cons_zero, List.set_cons_succ]
  refine callA_of (l02PrefixOK_c _ a b) ?_
  rintro r h0 ⟨rfl, E0⟩
  have bb := bb.ext E0
  have E := E.ext E0
  have le_E0 := E0.le
  cases d0 : okP a b
  · skip
    simp only [bb.eq, Bool.true_and, Bool.false_and, Bool.and_true, Bool.and_false, Bool.not_true, Bool.not_false, Bool.true_or, Bool.false_or, Bool.or_true, Bool.or_false, d0, go_sem, Hold.p, HoldK.k, HoldL.K, HoldL.body, Nat.reduceBEq, Nat.reduceAdd, List.getElem?_cons_zero, List.getElem?_cons_succ, Option.bind_some, List.map_cons, List.map_nil, Nat.zero_add, if_true, List.getD_cons_zero, List.getD_cons_succ, List.contains_cons, List.contains_nil, Nat.reduceBEq, Bool.or_true, Bool.true_or, Bool.or_false, Bool.false_or, Bool.not_true, Bool.not_false, true_and, and_true, rowA_whole, push_n, set_n, push_obj, set_obj, set_push, set_push_ne, set_set, Nat.add_assoc, Nat.left_eq_add, Nat.add_eq_left, Nat.add_left_cancel_iff, Nat.reduceEqDiff, stO_1s, stO_ws, boxA_s, one_bool, one_int, one_str, one_ptr, one_nilptr, one_slice, one_eslice, one_nilslice, one_func, one_iface, one_niliface, List.all_cons, List.all_nil, List.length_cons, List.length_nil, Nat.reduceLT, Nat.reduceEqDiff, Nat.reduceLeDiff, Bool.and_true, Nat.one_ne_zero, Nat.succ_ne_zero, reduceIte, if_false, List.getElem?_cons_zero, List.set_cons_zero, List.set_cons_succ]
    exact E
  obtain ⟨ha, hb, _⟩ := okP_ok d0
  obtain ⟨p0, p1⟩ := sizeP_pos b
  have w1 : wr .i64 (a + sizeP b) = a + sizeP b := wr64 _ (by omega)
  have w2 : wr .i64 (a + sizeP b - 1) = a + sizeP b - 1 := wr64 _ (by omega)
  simp only [bb.eq, Bool.true_and, Bool.false_and, Bool.and_true, Bool.and_false, Bool.not_true, Bool.not_false, Bool.true_or, Bool.false_or, Bool.or_true, Bool.or_false, d0, go_sem, Hold.p, HoldK.k, HoldL.K, HoldL.body, Nat.reduceBEq, Nat.reduceAdd, List.getElem?_cons_zero, List.getElem?_cons_succ, Option.bind_some, List.map_cons, List.map_nil, Nat.zero_add, if_true, List.getD_cons_zero, List.getD_cons_succ, List.contains_cons, List.contains_nil, Nat.reduceBEq, Bool.or_true, Bool.true_or, Bool.or_false, Bool.false_or, Bool.not_true, Bool.not_false, true_and, and_true, rowA_whole, push_n, set_n, push_obj, set_obj, set_push, set_push_ne, set_set, Nat.add_assoc, Nat.left_eq_add, Nat.add_eq_left, Nat.add_left_cancel_iff, Nat.reduceEqDiff, stO_1s, stO_ws, boxA_s, one_bool, one_int, one_str, one_ptr, one_nilptr, one_slice, one_eslice, one_nilslice, one_func, one_iface, one_niliface, List.all_cons, List.all_nil, List.length_cons, List.length_nil, Nat.reduceLT, Nat.reduceEqDiff, Nat.reduceLeDiff, Bool.and_true, Nat.one_ne_zero, Nat.succ_ne_zero, reduceIte, if_false, List.getElem?_cons_zero, List.set_cons_zero, List.set_cons_succ]
  refine callA_of (l02Size_c _ b hb) ?_
  rintro r h3 ⟨rfl, rfl⟩
  simp only [bb.eq, Bool.true_and, Bool.false_and, Bool.and_true, Bool.and_false, Bool.not_true, Bool.not_false, Bool.true_or, Bool.false_or, Bool.or_true, Bool.or_false, d0, w1, w2, go_sem, Hold.p, HoldK.k, HoldL.K, HoldL.body, Nat.reduceBEq, Nat.reduceAdd, List.getElem?_cons_zero, List.getElem?_cons_succ, Option.bind_some, List.map_cons, List.map_nil, Nat.zero_add, if_true, List.getD_cons_zero, List.getD_cons_succ, List.contains_cons, List.contains_nil, Nat.reduceBEq, Bool.or_true, Bool.true_or, Bool.or_false, Bool.false_or, Bool.not_true, Bool.not_false, true_and, and_true, rowA_whole, push_n, set_n, push_obj, set_obj, set_push, set_push_ne, set_set, Nat.add_assoc, Nat.left_eq_add, Nat.add_eq_left, Nat.add_left_cancel_iff, Nat.reduceEqDiff, stO_1s, stO_ws, boxA_s, one_bool, one_int, one_str, one_ptr, one_nilptr, one_slice, one_eslice, one_nilslice, one_func, one_iface, one_niliface, List.all_cons, List.all_nil, List.length_cons, List.length_nil, Nat.reduceLT, Nat.reduceEqDiff, Nat.reduceLeDiff, Bool.and_true, Nat.one_ne_zero, Nat.succ_ne_zero, reduceIte, if_false, List.getElem?_cons_zero, List.set_cons_zero, List.set_cons_succ]
  rw [if_neg (by decide)]
  exact ⟨rfl, E⟩

set_option maxRecDepth 20000 in
theorem implBroadcast_c (h : IH) (a b : Int) : ICalls Try.prog 42 [.agg [.int .i64 a, .int .i64 b]] h fun r h' => r = .int .i64 (bcast a b) ∧ Ext h h' := by
  refine icalls (.of ok42) (Nat.le_of_ble_eq_true rfl) ?_
  unfold c42 bcast
  simp only [go_sem, Hold.p, HoldK.k, HoldL.K, HoldL.body, Nat.reduceBEq, Nat.reduceAdd, List.getElem?_cons_zero, List.getElem?_cons_succ, Option.bind_some, List.map_cons, List.map_nil, Nat.zero_add, if_true, List.getD_cons_zero, List.getD_cons_succ, List.contains_cons, List.contains_nil, Nat.reduceBEq, Bool.or_true, Bool.true_or, Bool.or_false, Bool.false_or, Bool.not_true, Bool.not_false, true_and, and_true, rowA_whole, push_n, set_n, push_obj, set_obj, set_push, set_push_ne, set_set, Nat.add_assoc, Nat.left_eq_add, Nat.add_eq_left, Nat.add_left_cancel_iff, Nat.reduceEqDiff, stO_1s, stO_ws, boxA_s, one_bool, one_int, one_str, one_ptr, one_nilptr, one_slice, one_eslice, one_nilslice, one_func, one_iface, one_niliface, List.all_cons, List.all_nil, List.length_cons, List.length_nil, Nat.reduceLT, Nat.reduceEqDiff, Nat.reduceLeDiff, Bool.and_true, Nat.one_ne_zero, Nat.succ_ne_zero, reduceIte, if_false, List.getElem?_cons_zero, List.set_cons_zero, List.set_cons_succ]
  generalize hq_g0 : IH.push h (IObj.rows [[IV.int .i64 a, IV.int .i64 b]] 71 2 false) = g0
  have e_g0 : Ext h g0 := by rw [← hq_g0]; exact (Ext.refl _).push _
  have l_g0 : g0.n = h.n + 1 := by rw [← hq_g0]; rfl
  have bb : At g0 h.n (IObj.rows [[IV.int .i64 a, IV.int .i64 b]] 71 2 false) := by rw [← hq_g0]; exact At.new _ _
  clear hq_g0
  have E := e_g0
  try simp only [bb.eq, Bool.true_and, Bool.false_and, Bool.and_true, Bool.and_false, Bool.not_true, Bool.not_false, Bool.true_or, Bool.false_or, Bool.or_true, Bool.or_false, go_sem, Hold.p, HoldK.k, HoldL.K, HoldL.body, Nat.reduceBEq, Nat.reduceAdd, List.getElem?_cons_zero, List.getElem?_cons_succ, Option.bind_some, List.map_cons, List.map_nil, Nat.zero_add, if_true, List.getD_cons_zero, List.getD_cons_succ, List.contains_cons, List.contains_nil, Nat.reduceBEq, Bool.or_true, Bool.true_or, Bool.or_false, Bool.false_or, Bool.not_true, Bool.not_false, true_and, and_true, rowA_whole, push_n, set_n, push_obj, set_obj, set_push, set_push_ne, set_set, Nat.add_assoc, Nat.left_eq_add, Nat.add_eq_left, Nat.add_left_cancel_iff, Nat.reduceEqDiff, stO_1s, stO_ws, boxA_s, one_bool, one_int, one_str, one_ptr, one_nilptr, one_slice, one_eslice, one_nilslice, one_func, one_iface, one_niliface, List.all_cons, List.all_nil, List.length_cons, List.length_nil, Nat.reduceLT, Nat.reduceEqDiff, Nat.reduceLeDiff, Bool.and_true, Nat.one_ne_zero, Nat.succ_ne_zero, reduceIte, if_false, List.getElem?_cons_zero, List.set_cons_zero, List.set_cons_succ]
  refine callA_of (okPrefix_c _ a b) ?_
  rintro r h0 ⟨rfl, E0⟩
  have bb := bb.ext E0
  have E := E.ext E0
  have le_E0 := E0.le
  cases d0 : okP a b
  · skip
    simp only [bb.eq, Bool.true_and, Bool.false_and, Bool.and_true, Bool.and_false, Bool.not_true, Bool.not_false, Bool.true_or, Bool.false_or, Bool.or_true, Bool.or_false, d0, go_sem, Hold.p, HoldK.k, HoldL.K, HoldL.body, Nat.reduceBEq, Nat.reduceAdd, List.getElem?_cons_zero, List.getElem?_cons_succ, Option.bind_some, List.map_cons, List.map_nil, Nat.zero_add, if_true, List.getD_cons_zero, List.getD_cons_succ, List.contains_cons, List.contains_nil, Nat.reduceBEq, Bool.or_true, Bool.true_or, Bool.or_false, Bool.false_or, Bool.not_true, Bool.not_false, true_and, and_true, rowA_whole, push_n, set_n, push_obj, set_obj, set_push, set_push_ne, set_set, Nat.add_assoc, Nat.left_eq_add, Nat.add_eq_left, Nat.add_left_cancel_iff, Nat.reduceEqDiff, stO_1s, stO_ws, boxA_s, one_bool, one_int, one_str, one_ptr, one_nilptr, one_slice, one_eslice, one_nilslice, one_func, one_iface, one_niliface, List.all_cons, List.all_nil, List.length_cons, List.length_nil, Nat.reduceLT, Nat.reduceEqDiff, Nat.reduceLeDiff, Bool.and_true, Nat.one_ne_zero, Nat.succ_ne_zero, reduceIte, if_false, List.getElem?_cons_zero, List.set_cons_zero, List.set_cons_succ]
    exact E
  obtain ⟨ha, hb, hd⟩ := okP_ok d0
  obtain ⟨p0, p1⟩ := sizeP_pos b
  have w1 : IW.bits .andNot .i64 4294967295 (4294967296 - sizeP b) = sizeP b - 1 := andNot_mask b
  have w2 : IW.bits .or .i64 a (sizeP b - 1) = a + sizeP b - 1 := or_low ha.1 ha.2 (by omega) (by rw [Int.tmod_eq_emod_of_nonneg ha.1] at hd; exact hd)
  simp only [bb.eq, Bool.true_and, Bool.false_and, Bool.and_true, Bool.and_false, Bool.not_true, Bool.not_false, Bool.true_or, Bool.false_or, Bool.or_true, Bool.or_false, d0, go_sem, Hold.p, HoldK.k, HoldL.K, HoldL.body, Nat.reduceBEq, Nat.reduceAdd, List.getElem?_cons_zero, List.getElem?_cons_succ, Option.bind_some, List.map_cons, List.map_nil, Nat.zero_add, if_true, List.getD_cons_zero, List.getD_cons_succ, List.contains_cons, List.contains_nil, Nat.reduceBEq, Bool.or_true, Bool.true_or, Bool.or_false, Bool.false_or, Bool.not_true, Bool.not_false, true_and, and_true, rowA_whole, push_n, set_n, push_obj, set_obj, set_push, set_push_ne, set_set, Nat.add_assoc, Nat.left_eq_add, Nat.add_eq_left, Nat.add_left_cancel_iff, Nat.reduceEqDiff, stO_1s, stO_ws, boxA_s, one_bool, one_int, one_str, one_ptr, one_nilptr, one_slice, one_eslice, one_nilslice, one_func, one_iface, one_niliface, List.all_cons, List.all_nil, List.length_cons, List.length_nil, Nat.reduceLT, Nat.reduceEqDiff, Nat.reduceLeDiff, Bool.and_true, Nat.one_ne_zero, Nat.succ_ne_zero, reduceIte, if_false, List.getElem?_cons_zero, List.set_cons_zero, List.set_cons_succ]
  refine callA_of (mask_c _ b hb) ?_
  rintro r h3 ⟨rfl, rfl⟩
  simp only [bb.eq, Bool.true_and, Bool.false_and, Bool.and_true, Bool.and_false, Bool.not_true, Bool.not_false, Bool.true_or, Bool.false_or, Bool.or_true, Bool.or_false, d0, w1, w2, go_sem, Hold.p, HoldK.k, HoldL.K, HoldL.body, Nat.reduceBEq, Nat.reduceAdd, List.getElem?_cons_zero, List.getElem?_cons_succ, Option.bind_some, List.map_cons, List.map_nil, Nat.zero_add, if_true, List.getD_cons_zero, List.getD_cons_succ, List.contains_cons, List.contains_nil, Nat.reduceBEq, Bool.or_true, Bool.true_or, Bool.or_false, Bool.false_or, Bool.not_true, Bool.not_false, true_and, and_true, rowA_whole, push_n, set_n, push_obj, set_obj, set_push, set_push_ne, set_set, Nat.add_assoc, Nat.left_eq_add, Nat.add_eq_left, Nat.add_left_cancel_iff, Nat.reduceEqDiff, stO_1s, stO_ws, boxA_s, one_bool, one_int, one_str, one_ptr, one_nilptr, one_slice, one_eslice, one_nilslice, one_func, one_iface, one_niliface, List.all_cons, List.all_nil, List.length_cons, List.length_nil, Nat.reduceLT, Nat.reduceEqDiff, Nat.reduceLeDiff, Bool.and_true, Nat.one_ne_zero, Nat.succ_ne_zero, reduceIte, if_false, List.getElem?_cons_zero, List.set_cons_zero, List.set_cons_succ]
  rw [if_neg (by decide)]
  exact ⟨rfl, E⟩

end Go.Proofs.Ytcmcfmgabafljaa
