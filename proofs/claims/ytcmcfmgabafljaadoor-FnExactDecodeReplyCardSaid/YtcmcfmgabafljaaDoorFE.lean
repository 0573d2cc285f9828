import Derived.Test.YtcmcfmgabafljaaDoorIwP
import Derived.Test.YtcmcfmgabafljaaDoorProg
import Derived.KernelRfl
set_option linter.unusedVariables false
set_option linter.unusedSimpArgs false
namespace Go.Proofs.YtcmcfmgabafljaaDoor
open Go Go.IW
/-- loop.example/g00003/laws.eqNameReply -/
def c29 : CC :=
 (.seq (.reg [
   ⟨(some 2), none, .x (.box 44 5 (.t 0))⟩,
   ⟨(some 3), none, .x (.box 44 5 (.t 1))⟩,
   ⟨(some 4), none, .f (.mv (.c (.bool false)))⟩])
 (.seq (.seq (.reg [
   ⟨(some 5), none, .f (.fadr 0 (.t 2))⟩,
   ⟨(some 6), none, .f (.ld (.t 5))⟩,
   ⟨(some 7), none, .f (.fadr 0 (.t 3))⟩,
   ⟨(some 8), none, .f (.ld (.t 7))⟩,
   ⟨(some 9), none, .f (.bin .neq (.t 6) (.t 8))⟩])
 (.cond (.t 9)
  (.seq (.reg [
    ⟨(some 4), none, .f (.mv (.c (.bool false)))⟩])
  .ret)
  .skip))
 (.seq (.seq (.reg [
   ⟨(some 10), none, .f (.fadr 1 (.t 2))⟩,
   ⟨(some 11), none, .f (.ld (.t 10))⟩,
   ⟨(some 12), none, .f (.fadr 1 (.t 3))⟩,
   ⟨(some 13), none, .f (.ld (.t 12))⟩,
   ⟨(some 14), none, .f (.bin .neq (.t 11) (.t 13))⟩])
 (.cond (.t 14)
  (.seq (.reg [
    ⟨(some 4), none, .f (.mv (.c (.bool false)))⟩])
  .ret)
  .skip))
 (.seq (.seq (.reg [
   ⟨(some 15), none, .f (.fadr 2 (.t 2))⟩,
   ⟨(some 16), none, .f (.ld (.t 15))⟩,
   ⟨(some 17), none, .f (.fadr 2 (.t 3))⟩,
   ⟨(some 18), none, .f (.ld (.t 17))⟩,
   ⟨(some 19), none, .f (.bin .neq (.t 16) (.t 18))⟩])
 (.cond (.t 19)
  (.seq (.reg [
    ⟨(some 4), none, .f (.mv (.c (.bool false)))⟩])
  .ret)
  .skip))
 (.seq (.seq (.reg [
   ⟨(some 20), none, .f (.fadr 3 (.t 2))⟩,
   ⟨(some 21), none, .f (.ld (.t 20))⟩,
   ⟨(some 22), none, .f (.fadr 3 (.t 3))⟩,
   ⟨(some 23), none, .f (.ld (.t 22))⟩,
   ⟨(some 24), none, .f (.bin .neq (.t 21) (.t 23))⟩])
 (.cond (.t 24)
  (.seq (.reg [
    ⟨(some 4), none, .f (.mv (.c (.bool false)))⟩])
  .ret)
  .skip))
 (.seq (.seq (.reg [
   ⟨(some 25), none, .f (.fadr 4 (.t 2))⟩,
   ⟨(some 26), none, .f (.ld (.t 25))⟩,
   ⟨(some 27), none, .f (.fadr 4 (.t 3))⟩,
   ⟨(some 28), none, .f (.ld (.t 27))⟩,
   ⟨(some 29), none, .x (.call 73 [(.t 26), (.t 28)])⟩,
   ⟨(some 30), none, .f (.un .not (.t 29))⟩])
 (.cond (.t 30)
  (.seq (.reg [
    ⟨(some 4), none, .f (.mv (.c (.bool false)))⟩])
  .ret)
  .skip))
 (.seq (.reg [
   ⟨(some 4), none, .f (.mv (.c (.bool true)))⟩])
 .ret)))))))
theorem ok29 : fnComp Tryd.prog 29 = some (31, c29, [(.mv (.t 4))]) := by kernel_rfl

/-- loop.example/g00003/laws.markNameReply -/
def c30 : CC :=
 (.seq (.reg [
   ⟨(some 2), none, .x (.box 44 5 (.t 0))⟩,
   ⟨(some 4), none, .f (.mv (.c (.int .i64 0)))⟩])
 (.seq (.reg [
   ⟨(some 5), none, .f (.fadr 4 (.t 2))⟩,
   ⟨(some 6), none, .f (.ld (.t 5))⟩,
   ⟨(some 7), none, .f (.mv (.t 1))⟩,
   ⟨(some 8), none, .x (.call 74 [(.t 6), (.t 7)])⟩,
   ⟨(some 1), none, .f (.mv (.t 8))⟩])
 (.seq (.reg [
   ⟨(some 9), none, .f (.mv (.t 1))⟩,
   ⟨(some 4), none, .f (.mv (.t 9))⟩])
 .ret)))
theorem ok30 : fnComp Tryd.prog 30 = some (10, c30, [(.mv (.t 4))]) := by kernel_rfl

/-- loop.example/g00003/laws.eqInt64S -/
def c73 : CC :=
 (.seq (.reg [
   ⟨(some 4), none, .f (.mv (.c (.bool false)))⟩])
 (.seq (.seq (.reg [
   ⟨(some 6), none, .f (.mv (.t 0))⟩,
   ⟨(some 7), none, .f (.len (.t 6))⟩,
   ⟨(some 8), none, .f (.mv (.t 1))⟩,
   ⟨(some 9), none, .f (.len (.t 8))⟩,
   ⟨(some 10), none, .f (.bin .neq (.t 7) (.t 9))⟩])
 (.cond (.t 10)
  (.seq (.reg [
    ⟨(some 4), none, .f (.mv (.c (.bool false)))⟩])
  .ret)
  .skip))
 (.seq (.seq (.reg [
   ⟨(some 5), none, .f (.mv (.c (.int .i64 0)))⟩])
 (.block 0 (.loop (.seq (.seq (.reg [
     ⟨(some 11), none, .f (.mv (.t 5))⟩,
     ⟨(some 12), none, .f (.mv (.t 0))⟩,
     ⟨(some 13), none, .f (.len (.t 12))⟩,
     ⟨(some 14), none, .f (.bin .lss (.t 11) (.t 13))⟩])
   (.cond (.t 14)
    .skip
    (.exit 0)))
   (.seq (.block 1 (.seq (.dreg [
      ⟨(some 17), none, .f (.mv (.t 0))⟩,
      ⟨(some 18), none, .f (.mv (.t 5))⟩,
      ⟨(some 19), none, .f (.iadr 1 (.t 17) (.t 18))⟩,
      ⟨(some 20), none, .f (.ld (.t 19))⟩,
      ⟨(some 21), none, .f (.mv (.t 1))⟩,
      ⟨(some 22), none, .f (.mv (.t 5))⟩,
      ⟨(some 23), none, .f (.iadr 1 (.t 21) (.t 22))⟩,
      ⟨(some 24), none, .f (.ld (.t 23))⟩,
      ⟨(some 25), none, .f (.bin .neq (.t 20) (.t 24))⟩]
      [false, false, false, false, false, false, false, false, false] [[], [], [0, 1], [2, 0, 1], [], [], [4, 5], [6, 4, 5], [3, 2, 0, 1, 7, 6, 4, 5]] [0, 1, 2, 3, 4, 5, 6, 7, 8])
    (.cond (.t 25)
     (.seq (.reg [
       ⟨(some 4), none, .f (.mv (.c (.bool false)))⟩])
     .ret)
     .skip)))
   (.reg [
     ⟨(some 15), none, .f (.mv (.t 5))⟩,
     ⟨(some 16), none, .f (.bin .add (.t 15) (.c (.int .i64 1)))⟩,
     ⟨(some 5), none, .f (.mv (.t 16))⟩]))))))
 (.seq (.reg [
   ⟨(some 4), none, .f (.mv (.c (.bool true)))⟩])
 .ret))))
theorem ok73 : fnComp Tryd.prog 73 = some (26, c73, [(.mv (.t 4))]) := by kernel_rfl

/-- loop.example/g00003/laws.markInt64S -/
def c74 : CC :=
 (.seq (.reg [
   ⟨(some 4), none, .f (.mv (.c (.int .i64 0)))⟩])
 (.seq (.seq (.reg [
   ⟨(some 5), none, .f (.mv (.c (.int .i64 0)))⟩])
 (.block 0 (.loop (.seq (.seq (.reg [
     ⟨(some 6), none, .f (.mv (.t 5))⟩,
     ⟨(some 7), none, .f (.mv (.t 0))⟩,
     ⟨(some 8), none, .f (.len (.t 7))⟩,
     ⟨(some 9), none, .f (.bin .lss (.t 6) (.t 8))⟩])
   (.cond (.t 9)
    .skip
    (.exit 0)))
   (.seq (.block 1 (.seq (.reg [
      ⟨(some 12), none, .f (.mv (.t 0))⟩,
      ⟨(some 13), none, .f (.mv (.t 5))⟩,
      ⟨(some 14), none, .f (.mv (.t 1))⟩,
      ⟨(some 15), none, .f (.iadr 1 (.t 12) (.t 13))⟩,
      ⟨none, none, .x (.st 1 (.t 15) (.t 14))⟩])
    (.reg [
      ⟨(some 16), none, .f (.mv (.t 1))⟩,
      ⟨(some 17), none, .f (.bin .add (.t 16) (.c (.int .i64 1)))⟩,
      ⟨(some 1), none, .f (.mv (.t 17))⟩])))
   (.reg [
     ⟨(some 10), none, .f (.mv (.t 5))⟩,
     ⟨(some 11), none, .f (.bin .add (.t 10) (.c (.int .i64 1)))⟩,
     ⟨(some 5), none, .f (.mv (.t 11))⟩]))))))
 (.seq (.reg [
   ⟨(some 18), none, .f (.mv (.t 1))⟩,
   ⟨(some 4), none, .f (.mv (.t 18))⟩])
 .ret)))
theorem ok74 : fnComp Tryd.prog 74 = some (19, c74, [(.mv (.t 4))]) := by kernel_rfl

/-- loop.example/g00003/laws.heldInt64S -/
def c75 : CC :=
 (.seq (.reg [
   ⟨(some 4), none, .f (.mv (.c (.int .i64 0)))⟩])
 (.seq (.seq (.reg [
   ⟨(some 5), none, .f (.mv (.c (.int .i64 0)))⟩])
 (.block 0 (.loop (.seq (.seq (.reg [
     ⟨(some 6), none, .f (.mv (.t 5))⟩,
     ⟨(some 7), none, .f (.mv (.t 0))⟩,
     ⟨(some 8), none, .f (.len (.t 7))⟩,
     ⟨(some 9), none, .f (.bin .lss (.t 6) (.t 8))⟩])
   (.cond (.t 9)
    .skip
    (.exit 0)))
   (.seq (.block 1 (.seq (.seq (.reg [
      ⟨(some 12), none, .f (.mv (.t 0))⟩,
      ⟨(some 13), none, .f (.mv (.t 5))⟩,
      ⟨(some 14), none, .f (.iadr 1 (.t 12) (.t 13))⟩,
      ⟨(some 15), none, .f (.ld (.t 14))⟩,
      ⟨(some 16), none, .f (.mv (.t 1))⟩,
      ⟨(some 17), none, .f (.bin .neq (.t 15) (.t 16))⟩])
    (.cond (.t 17)
     (.seq (.reg [
       ⟨(some 4), none, .f (.mv (.c (.int .i64 (-1))))⟩])
     .ret)
     .skip))
    (.reg [
      ⟨(some 18), none, .f (.mv (.t 1))⟩,
      ⟨(some 19), none, .f (.bin .add (.t 18) (.c (.int .i64 1)))⟩,
      ⟨(some 1), none, .f (.mv (.t 19))⟩])))
   (.reg [
     ⟨(some 10), none, .f (.mv (.t 5))⟩,
     ⟨(some 11), none, .f (.bin .add (.t 10) (.c (.int .i64 1)))⟩,
     ⟨(some 5), none, .f (.mv (.t 11))⟩]))))))
 (.seq (.reg [
   ⟨(some 20), none, .f (.mv (.t 1))⟩,
   ⟨(some 4), none, .f (.mv (.t 20))⟩])
 .ret)))
theorem ok75 : fnComp Tryd.prog 75 = some (21, c75, [(.mv (.t 4))]) := by kernel_rfl

/-- loop.example/g00003/laws.markText -/
def c82 : CC :=
 (.seq (.reg [
   ⟨(some 2), none, .f (.mv (.c (.str [])))⟩])
 (.seq (.seq (.reg [
   ⟨(some 4), none, .f (.mv (.t 0))⟩,
   ⟨(some 5), none, .f (.bin .leq (.t 4) (.c (.int .i64 0)))⟩])
 (.cond (.t 5)
  (.seq (.reg [
    ⟨(some 2), none, .f (.mv (.c (.str [109, 48])))⟩])
  .ret)
  .skip))
 (.seq (.reg [
   ⟨(some 3), none, .f (.mv (.c (.str [])))⟩])
 (.seq (.block 0 (.loop (.seq (.seq (.reg [
     ⟨(some 6), none, .f (.mv (.t 0))⟩,
     ⟨(some 7), none, .f (.bin .gtr (.t 6) (.c (.int .i64 0)))⟩])
   (.cond (.t 7)
    .skip
    (.exit 0)))
   (.block 1 (.seq (.reg [
      ⟨(some 8), none, .f (.mv (.t 0))⟩,
      ⟨(some 9), none, .f (.bin .rem (.t 8) (.c (.int .i64 10)))⟩,
      ⟨(some 10), none, .f (.bin .add (.c (.int .i64 48)) (.t 9))⟩,
      ⟨(some 11), none, .f (.cvI .u8 (.t 10))⟩,
      ⟨(some 12), none, .x (.bslice 5 1 [(.int .u8 0)] 1 [(0, (.t 11))])⟩,
      ⟨(some 13), none, .f (.b2s (.t 12))⟩,
      ⟨(some 14), none, .f (.mv (.t 3))⟩,
      ⟨(some 15), none, .f (.bin .add (.t 13) (.t 14))⟩,
      ⟨(some 3), none, .f (.mv (.t 15))⟩])
    (.reg [
      ⟨(some 16), none, .f (.mv (.t 0))⟩,
      ⟨(some 17), none, .f (.bin .quo (.t 16) (.c (.int .i64 10)))⟩,
      ⟨(some 0), none, .f (.mv (.t 17))⟩]))))))
 (.seq (.reg [
   ⟨(some 18), none, .f (.mv (.t 3))⟩,
   ⟨(some 19), none, .f (.bin .add (.c (.str [109])) (.t 18))⟩,
   ⟨(some 2), none, .f (.mv (.t 19))⟩])
 .ret)))))
theorem ok82 : fnComp Tryd.prog 82 = some (20, c82, [(.mv (.t 2))]) := by kernel_rfl

/-- loop.example/g00003/laws.FnExactDecodeReply -/
def c7 : CC :=
 (.seq (.reg [
   ⟨(some 2), none, .f (.mv (.c (.bool false)))⟩])
 (.seq (.seq (.reg [
   ⟨(some 13), none, .f (.mv (.t 0))⟩,
   ⟨(some 14), none, .f (.len (.t 13))⟩,
   ⟨(some 15), none, .f (.bin .gtr (.t 14) (.c (.int .i64 1048576)))⟩])
 (.cond (.t 15)
  (.seq (.reg [
    ⟨(some 2), none, .f (.mv (.c (.bool true)))⟩])
  .ret)
  .skip))
 (.seq (.reg [
   ⟨(some 17), none, .f (.mv (.t 0))⟩,
   ⟨(some 18), none, .x (.call 22 [(.t 17)])⟩,
   ⟨(some 19), none, .x (.call 31 [(.t 18)])⟩,
   ⟨(some 16), none, .f (.mv (.t 19))⟩,
   ⟨(some 20), none, .f (.ext 0 (.t 16))⟩,
   ⟨(some 21), none, .f (.ext 1 (.t 16))⟩,
   ⟨(some 3), none, .x (.zero 44 5 [(.int .i64 0), (.int .i64 0), (.int .i64 0), (.str []), .nilslice])⟩,
   ⟨none, none, .x (.st 5 (.t 3) (.t 20))⟩,
   ⟨(some 4), none, .f (.mv (.t 21))⟩])
 (.seq (.reg [
   ⟨(some 22), none, .f (.mv (.t 0))⟩,
   ⟨(some 23), none, .x (.call 22 [(.t 22)])⟩,
   ⟨(some 5), none, .f (.mv (.t 23))⟩])
 (.seq (.reg [
   ⟨(some 25), none, .f (.mv (.t 5))⟩,
   ⟨(some 26), none, .x (.call 32 [(.t 25)])⟩,
   ⟨(some 24), none, .f (.mv (.t 26))⟩,
   ⟨(some 27), none, .f (.ext 0 (.t 24))⟩,
   ⟨(some 28), none, .f (.ext 1 (.t 24))⟩,
   ⟨(some 6), none, .x (.zero 44 5 [(.int .i64 0), (.int .i64 0), (.int .i64 0), (.str []), .nilslice])⟩,
   ⟨none, none, .x (.st 5 (.t 6) (.t 27))⟩,
   ⟨(some 7), none, .f (.mv (.t 28))⟩])
 (.seq (.seq (.reg [
   ⟨(some 29), none, .f (.ldA 5 (.t 6))⟩,
   ⟨(some 30), none, .f (.ldA 5 (.t 3))⟩,
   ⟨(some 31), none, .x (.call 29 [(.t 29), (.t 30)])⟩,
   ⟨(some 32), none, .f (.un .not (.t 31))⟩,
   ⟨(some 33), none, .f (.mv (.t 32))⟩,
   ⟨(some 34), (some (33, false)), .f (.mv (.t 7))⟩,
   ⟨(some 35), (some (33, false)), .f (.mv (.t 4))⟩,
   ⟨(some 36), (some (33, false)), .f (.bin .neq (.t 34) (.t 35))⟩,
   ⟨(some 37), none, .f (.pick (.t 33) (.c (.bool true)) (.t 36))⟩])
 (.cond (.t 37)
  (.seq (.reg [
    ⟨(some 2), none, .f (.mv (.c (.bool false)))⟩])
  .ret)
  .skip))
 (.seq (.seq (.reg [
   ⟨(some 38), none, .f (.mv (.t 5))⟩,
   ⟨(some 39), none, .f (.mv (.t 0))⟩,
   ⟨(some 40), none, .x (.call 22 [(.t 39)])⟩,
   ⟨(some 41), none, .x (.call 18 [(.t 38), (.t 40)])⟩,
   ⟨(some 42), none, .f (.un .not (.t 41))⟩])
 (.cond (.t 42)
  (.seq (.reg [
    ⟨(some 2), none, .f (.mv (.c (.bool false)))⟩])
  .ret)
  .skip))
 (.seq (.reg [
   ⟨(some 8), none, .f (.mv (.c (.int .i64 1)))⟩])
 (.seq (.reg [
   ⟨(some 43), none, .f (.mv (.t 5))⟩,
   ⟨(some 44), none, .f (.mv (.t 8))⟩,
   ⟨(some 45), none, .x (.call 19 [(.t 43), (.t 44)])⟩,
   ⟨(some 8), none, .f (.mv (.t 45))⟩])
 (.seq (.seq (.reg [
   ⟨(some 46), none, .f (.mv (.t 8))⟩,
   ⟨(some 47), none, .f (.bin .lss (.t 46) (.c (.int .i64 0)))⟩,
   ⟨(some 48), none, .f (.mv (.t 47))⟩,
   ⟨(some 49), (some (48, false)), .f (.ldA 5 (.t 6))⟩,
   ⟨(some 50), (some (48, false)), .f (.ldA 5 (.t 3))⟩,
   ⟨(some 51), (some (48, false)), .x (.call 29 [(.t 49), (.t 50)])⟩,
   ⟨(some 52), (some (48, false)), .f (.un .not (.t 51))⟩,
   ⟨(some 53), none, .f (.pick (.t 48) (.c (.bool true)) (.t 52))⟩,
   ⟨(some 54), none, .f (.mv (.t 53))⟩,
   ⟨(some 55), (some (54, false)), .f (.mv (.t 7))⟩,
   ⟨(some 56), (some (54, false)), .f (.mv (.t 4))⟩,
   ⟨(some 57), (some (54, false)), .f (.bin .neq (.t 55) (.t 56))⟩,
   ⟨(some 58), none, .f (.pick (.t 54) (.c (.bool true)) (.t 57))⟩])
 (.cond (.t 58)
  (.seq (.reg [
    ⟨(some 2), none, .f (.mv (.c (.bool false)))⟩])
  .ret)
  .skip))
 (.seq (.reg [
   ⟨(some 9), none, .f (.mv (.c (.int .i64 1)))⟩])
 (.seq (.reg [
   ⟨(some 59), none, .f (.ldA 5 (.t 6))⟩,
   ⟨(some 60), none, .f (.mv (.t 9))⟩,
   ⟨(some 61), none, .x (.call 30 [(.t 59), (.t 60)])⟩,
   ⟨(some 9), none, .f (.mv (.t 61))⟩])
 (.seq (.reg [
   ⟨(some 10), none, .f (.mv (.c (.int .i64 1)))⟩])
 (.seq (.reg [
   ⟨(some 62), none, .f (.ldA 5 (.t 6))⟩,
   ⟨(some 63), none, .f (.mv (.t 10))⟩,
   ⟨(some 64), none, .x (.call 33 [(.t 62), (.t 63)])⟩,
   ⟨(some 10), none, .f (.mv (.t 64))⟩])
 (.seq (.seq (.reg [
   ⟨(some 65), none, .f (.mv (.t 10))⟩,
   ⟨(some 66), none, .f (.bin .lss (.t 65) (.c (.int .i64 0)))⟩])
 (.cond (.t 66)
  (.seq (.reg [
    ⟨(some 2), none, .f (.mv (.c (.bool false)))⟩])
  .ret)
  .skip))
 (.seq (.seq (.reg [
   ⟨(some 67), none, .f (.mv (.t 10))⟩,
   ⟨(some 68), none, .f (.mv (.t 9))⟩,
   ⟨(some 69), none, .f (.bin .neq (.t 67) (.t 68))⟩])
 (.cond (.t 69)
  (.seq (.reg [
    ⟨(some 2), none, .f (.mv (.c (.bool false)))⟩])
  .ret)
  .skip))
 (.seq (.reg [
   ⟨(some 71), none, .f (.mv (.t 0))⟩,
   ⟨(some 72), none, .x (.call 22 [(.t 71)])⟩,
   ⟨(some 73), none, .x (.call 32 [(.t 72)])⟩,
   ⟨(some 70), none, .f (.mv (.t 73))⟩,
   ⟨(some 74), none, .f (.ext 0 (.t 70))⟩,
   ⟨(some 75), none, .f (.ext 1 (.t 70))⟩,
   ⟨(some 11), none, .x (.zero 44 5 [(.int .i64 0), (.int .i64 0), (.int .i64 0), (.str []), .nilslice])⟩,
   ⟨none, none, .x (.st 5 (.t 11) (.t 74))⟩,
   ⟨(some 12), none, .f (.mv (.t 75))⟩])
 (.seq (.seq (.reg [
   ⟨(some 76), none, .f (.ldA 5 (.t 11))⟩,
   ⟨(some 77), none, .f (.ldA 5 (.t 3))⟩,
   ⟨(some 78), none, .x (.call 29 [(.t 76), (.t 77)])⟩,
   ⟨(some 79), none, .f (.un .not (.t 78))⟩,
   ⟨(some 80), none, .f (.mv (.t 79))⟩,
   ⟨(some 81), (some (80, false)), .f (.mv (.t 12))⟩,
   ⟨(some 82), (some (80, false)), .f (.mv (.t 4))⟩,
   ⟨(some 83), (some (80, false)), .f (.bin .neq (.t 81) (.t 82))⟩,
   ⟨(some 84), none, .f (.pick (.t 80) (.c (.bool true)) (.t 83))⟩])
 (.cond (.t 84)
  (.seq (.reg [
    ⟨(some 2), none, .f (.mv (.c (.bool false)))⟩])
  .ret)
  .skip))
 (.seq (.reg [
   ⟨(some 10), none, .f (.mv (.c (.int .i64 1)))⟩])
 (.seq (.reg [
   ⟨(some 85), none, .f (.ldA 5 (.t 6))⟩,
   ⟨(some 86), none, .f (.mv (.t 10))⟩,
   ⟨(some 87), none, .x (.call 33 [(.t 85), (.t 86)])⟩,
   ⟨(some 10), none, .f (.mv (.t 87))⟩])
 (.seq (.seq (.reg [
   ⟨(some 88), none, .f (.mv (.t 10))⟩,
   ⟨(some 89), none, .f (.bin .lss (.t 88) (.c (.int .i64 0)))⟩])
 (.cond (.t 89)
  (.seq (.reg [
    ⟨(some 2), none, .f (.mv (.c (.bool false)))⟩])
  .ret)
  .skip))
 (.seq (.seq (.reg [
   ⟨(some 90), none, .f (.mv (.t 10))⟩,
   ⟨(some 91), none, .f (.mv (.t 9))⟩,
   ⟨(some 92), none, .f (.bin .neq (.t 90) (.t 91))⟩])
 (.cond (.t 92)
  (.seq (.reg [
    ⟨(some 2), none, .f (.mv (.c (.bool false)))⟩])
  .ret)
  .skip))
 (.seq (.reg [
   ⟨(some 2), none, .f (.mv (.c (.bool true)))⟩])
 .ret)))))))))))))))))))))))
theorem ok7 : fnComp Tryd.prog 7 = some (93, c7, [(.mv (.t 2))]) := by kernel_rfl

/-- loop.example/g00003/spec.DecodeReply -/
def c31 : CC :=
 (.seq (.reg [
   ⟨(some 2), none, .x (.zero 44 5 [(.int .i64 0), (.int .i64 0), (.int .i64 0), (.str []), .nilslice])⟩,
   ⟨(some 3), none, .f (.mv (.c (.int .i64 0)))⟩])
 (.seq (.reg [
   ⟨(some 9), none, .f (.mv (.t 0))⟩,
   ⟨(some 10), none, .x (.call 64 [(.t 9), (.c (.int .i64 8))])⟩,
   ⟨(some 8), none, .f (.mv (.t 10))⟩,
   ⟨(some 11), none, .f (.ext 0 (.t 8))⟩,
   ⟨(some 12), none, .f (.ext 1 (.t 8))⟩,
   ⟨(some 4), none, .f (.mv (.t 11))⟩,
   ⟨(some 5), none, .f (.mv (.t 12))⟩])
 (.seq (.seq (.reg [
   ⟨(some 13), none, .f (.mv (.t 5))⟩,
   ⟨(some 14), none, .f (.bin .lss (.t 13) (.c (.int .i64 0)))⟩,
   ⟨(some 15), none, .f (.mv (.t 14))⟩,
   ⟨(some 16), (some (15, false)), .f (.mv (.t 5))⟩,
   ⟨(some 17), (some (15, false)), .f (.mv (.t 0))⟩,
   ⟨(some 18), (some (15, false)), .f (.len (.t 17))⟩,
   ⟨(some 19), (some (15, false)), .f (.bin .geq (.t 16) (.t 18))⟩,
   ⟨(some 20), none, .f (.pick (.t 15) (.c (.bool true)) (.t 19))⟩,
   ⟨(some 21), none, .f (.mv (.t 20))⟩,
   ⟨(some 22), (some (21, false)), .f (.mv (.t 5))⟩,
   ⟨(some 23), (some (21, false)), .f (.bin .add (.t 22) (.c (.int .i64 1)))⟩,
   ⟨(some 24), (some (21, false)), .f (.mv (.t 0))⟩,
   ⟨(some 25), (some (21, false)), .f (.mv (.t 5))⟩,
   ⟨(some 26), (some (21, false)), .f (.iadr 1 (.t 24) (.t 25))⟩,
   ⟨(some 27), (some (21, false)), .f (.ld (.t 26))⟩,
   ⟨(some 28), (some (21, false)), .f (.cvI .i64 (.t 27))⟩,
   ⟨(some 29), (some (21, false)), .f (.bin .mul (.c (.int .i64 4)) (.t 28))⟩,
   ⟨(some 30), (some (21, false)), .f (.bin .add (.t 23) (.t 29))⟩,
   ⟨(some 31), (some (21, false)), .f (.mv (.t 0))⟩,
   ⟨(some 32), (some (21, false)), .f (.len (.t 31))⟩,
   ⟨(some 33), (some (21, false)), .f (.bin .gtr (.t 30) (.t 32))⟩,
   ⟨(some 34), none, .f (.pick (.t 21) (.c (.bool true)) (.t 33))⟩])
 (.cond (.t 34)
  (.seq (.reg [
    ⟨(some 35), none, .f (.build [(.int .i64 0), (.int .i64 0), (.int .i64 0), (.str []), .nilslice] [])⟩,
    ⟨none, none, .x (.st 5 (.t 2) (.t 35))⟩,
    ⟨(some 3), none, .f (.mv (.c (.int .i64 2)))⟩])
  .ret)
  .skip))
 (.seq (.seq (.reg [
   ⟨(some 36), none, .f (.mv (.t 5))⟩,
   ⟨(some 37), none, .f (.bin .add (.t 36) (.c (.int .i64 1)))⟩,
   ⟨(some 38), none, .f (.mv (.t 0))⟩,
   ⟨(some 39), none, .f (.mv (.t 5))⟩,
   ⟨(some 40), none, .f (.iadr 1 (.t 38) (.t 39))⟩,
   ⟨(some 41), none, .f (.ld (.t 40))⟩,
   ⟨(some 42), none, .f (.cvI .i64 (.t 41))⟩,
   ⟨(some 43), none, .f (.bin .mul (.c (.int .i64 4)) (.t 42))⟩,
   ⟨(some 44), none, .f (.bin .add (.t 37) (.t 43))⟩,
   ⟨(some 45), none, .f (.mv (.t 0))⟩,
   ⟨(some 46), none, .f (.len (.t 45))⟩,
   ⟨(some 47), none, .f (.bin .lss (.t 44) (.t 46))⟩])
 (.cond (.t 47)
  (.seq (.reg [
    ⟨(some 48), none, .f (.build [(.int .i64 0), (.int .i64 0), (.int .i64 0), (.str []), .nilslice] [])⟩,
    ⟨none, none, .x (.st 5 (.t 2) (.t 48))⟩,
    ⟨(some 3), none, .f (.mv (.c (.int .i64 5)))⟩])
  .ret)
  .skip))
 (.seq (.seq (.reg [
   ⟨(some 49), none, .f (.mv (.t 0))⟩,
   ⟨(some 50), none, .f (.iadr 1 (.t 49) (.c (.int .i64 2)))⟩,
   ⟨(some 51), none, .f (.ld (.t 50))⟩,
   ⟨(some 52), none, .f (.bin .neq (.t 51) (.c (.int .u8 1)))⟩])
 (.cond (.t 52)
  (.seq (.reg [
    ⟨(some 53), none, .f (.build [(.int .i64 0), (.int .i64 0), (.int .i64 0), (.str []), .nilslice] [])⟩,
    ⟨none, none, .x (.st 5 (.t 2) (.t 53))⟩,
    ⟨(some 3), none, .f (.mv (.c (.int .i64 9)))⟩])
  .ret)
  .skip))
 (.seq (.seq (.reg [
   ⟨(some 54), none, .f (.mv (.t 4))⟩,
   ⟨(some 55), none, .x (.call 12 [(.t 54)])⟩,
   ⟨(some 56), none, .f (.un .not (.t 55))⟩])
 (.cond (.t 56)
  (.seq (.reg [
    ⟨(some 57), none, .f (.build [(.int .i64 0), (.int .i64 0), (.int .i64 0), (.str []), .nilslice] [])⟩,
    ⟨none, none, .x (.st 5 (.t 2) (.t 57))⟩,
    ⟨(some 3), none, .f (.mv (.c (.int .i64 6)))⟩])
  .ret)
  .skip))
 (.seq (.treg [
   ⟨(some 58), none, .f (.mv (.t 0))⟩,
   ⟨(some 59), none, .f (.slc 1 (.t 58) none (some (.c (.int .i64 2))) none)⟩,
   ⟨(some 60), none, .x (.call 65 [(.t 59)])⟩,
   ⟨(some 61), none, .f (.mv (.t 0))⟩,
   ⟨(some 62), none, .f (.iadr 1 (.t 61) (.c (.int .i64 3)))⟩,
   ⟨(some 63), none, .f (.ld (.t 62))⟩,
   ⟨(some 64), none, .f (.cvI .i64 (.t 63))⟩,
   ⟨(some 65), none, .f (.mv (.t 0))⟩,
   ⟨(some 66), none, .f (.slc 1 (.t 65) (some (.c (.int .i64 4))) (some (.c (.int .i64 8))) none)⟩,
   ⟨(some 67), none, .x (.call 65 [(.t 66)])⟩,
   ⟨(some 68), none, .f (.mv (.t 4))⟩,
   ⟨(some 69), none, .f (.build [(.int .i64 0), (.int .i64 0), (.int .i64 0), (.str []), .nilslice] [(0, 1, (.t 60)), (1, 1, (.t 64)), (2, 1, (.t 67)), (3, 1, (.t 68))])⟩,
   ⟨(some 6), none, .x (.zero 44 5 [(.int .i64 0), (.int .i64 0), (.int .i64 0), (.str []), .nilslice])⟩,
   ⟨none, none, .x (.st 5 (.t 6) (.t 69))⟩]
   [[], [0], [1, 0], [], [3], [4, 3], [5, 4, 3], [], [7], [8, 7, 2, 1, 0], [], [2, 1, 0, 6, 5, 4, 3, 9, 8, 7, 10], [], [12, 11, 2, 1, 0, 6, 5, 4, 3, 9, 8, 7, 10]] (.fl 0 (.fl 1 (.fl 3 (.fl 4 (.fl 5 (.fl 6 (.fl 7 (.fl 8 (.fl 10 (.br 2 (.br 9 (.fl 11 (.br 12 (.br 13 .fin .stop) .stop)) (.br 12 (.br 9 (.fl 11 (.br 13 .fin .stop)) .stop) .stop)) (.br 12 (.br 2 (.br 9 (.fl 11 (.br 13 .fin .stop)) .stop) .stop) .stop))))))))))))
 (.seq (.seq (.reg [
   ⟨(some 70), none, .f (.mv (.t 5))⟩,
   ⟨(some 71), none, .f (.bin .add (.t 70) (.c (.int .i64 1)))⟩,
   ⟨(some 7), none, .f (.mv (.t 71))⟩])
 (.block 0 (.loop (.seq (.seq (.reg [
     ⟨(some 72), none, .f (.mv (.t 7))⟩,
     ⟨(some 73), none, .f (.mv (.t 0))⟩,
     ⟨(some 74), none, .f (.len (.t 73))⟩,
     ⟨(some 75), none, .f (.bin .lss (.t 72) (.t 74))⟩])
   (.cond (.t 75)
    .skip
    (.exit 0)))
   (.seq (.block 1 (.dreg [
      ⟨(some 78), none, .f (.fadr 4 (.t 6))⟩,
      ⟨(some 79), none, .f (.ld (.t 78))⟩,
      ⟨(some 80), none, .f (.mv (.t 0))⟩,
      ⟨(some 81), none, .f (.mv (.t 7))⟩,
      ⟨(some 82), none, .f (.mv (.t 7))⟩,
      ⟨(some 83), none, .f (.bin .add (.t 82) (.c (.int .i64 4)))⟩,
      ⟨(some 84), none, .f (.slc 1 (.t 80) (some (.t 81)) (some (.t 83)) none)⟩,
      ⟨(some 85), none, .x (.call 65 [(.t 84)])⟩,
      ⟨(some 86), none, .x (.bslice 2 1 [(.int .i64 0)] 1 [(0, (.t 85))])⟩,
      ⟨(some 87), none, .x (.app 2 1 8 (.t 79) (.t 86))⟩,
      ⟨(some 88), none, .f (.fadr 4 (.t 6))⟩,
      ⟨none, none, .x (.st 1 (.t 88) (.t 87))⟩]
      [false, false, false, false, false, false, false, true, true, true, false, true] [[], [0], [], [], [], [4], [2, 3, 5, 4], [6, 2, 3, 5, 4], [7, 6, 2, 3, 5, 4], [1, 0, 8, 7, 6, 2, 3, 5, 4], [0, 1, 2, 3, 4, 5, 6, 7, 8, 9], [10, 0, 1, 2, 3, 4, 5, 6, 7, 8, 9]] [0, 1, 2, 3, 4, 5, 6, 7, 8, 9, 10, 11]))
   (.reg [
     ⟨(some 76), none, .f (.mv (.t 7))⟩,
     ⟨(some 77), none, .f (.bin .add (.t 76) (.c (.int .i64 4)))⟩,
     ⟨(some 7), none, .f (.mv (.t 77))⟩]))))))
 (.seq (.seq (.reg [
   ⟨(some 89), none, .f (.ldA 5 (.t 6))⟩,
   ⟨(some 90), none, .x (.call 70 [(.t 89)])⟩,
   ⟨(some 91), none, .f (.un .not (.t 90))⟩])
 (.cond (.t 91)
  (.seq (.reg [
    ⟨(some 92), none, .f (.build [(.int .i64 0), (.int .i64 0), (.int .i64 0), (.str []), .nilslice] [])⟩,
    ⟨none, none, .x (.st 5 (.t 2) (.t 92))⟩,
    ⟨(some 3), none, .f (.mv (.c (.int .i64 1)))⟩])
  .ret)
  .skip))
 (.seq (.reg [
   ⟨(some 93), none, .f (.ldA 5 (.t 6))⟩,
   ⟨none, none, .x (.st 5 (.t 2) (.t 93))⟩,
   ⟨(some 3), none, .f (.mv (.c (.int .i64 0)))⟩])
 .ret))))))))))
theorem ok31 : fnComp Tryd.prog 31 = some (94, c31, [(.ldA 5 (.t 2)), (.mv (.t 3))]) := by kernel_rfl

/-- loop.example/g00003/impl.DecodeReply -/
def c32 : CC :=
 (.seq (.reg [
   ⟨(some 2), none, .x (.zero 44 5 [(.int .i64 0), (.int .i64 0), (.int .i64 0), (.str []), .nilslice])⟩,
   ⟨(some 3), none, .f (.mv (.c (.int .i64 0)))⟩])
 (.seq (.reg [
   ⟨(some 9), none, .f (.mv (.t 0))⟩,
   ⟨(some 10), none, .f (.build [.nilslice, (.bool false)] [(0, 1, (.t 9))])⟩,
   ⟨(some 11), none, .x (.box 105 2 (.t 10))⟩,
   ⟨(some 4), none, .f (.mv (.t 11))⟩])
 (.seq (.reg [
   ⟨(some 12), none, .f (.mv (.t 4))⟩,
   ⟨(some 13), none, .x (.call 66 [(.t 12), (.c (.int .i64 2))])⟩,
   ⟨(some 14), none, .f (.build [(.int .i64 0), (.int .i64 0), (.int .i64 0), (.str []), .nilslice] [(0, 1, (.t 13))])⟩,
   ⟨(some 5), none, .x (.zero 44 5 [(.int .i64 0), (.int .i64 0), (.int .i64 0), (.str []), .nilslice])⟩,
   ⟨none, none, .x (.st 5 (.t 5) (.t 14))⟩])
 (.seq (.reg [
   ⟨(some 15), none, .f (.mv (.t 4))⟩,
   ⟨(some 16), none, .x (.call 66 [(.t 15), (.c (.int .i64 1))])⟩,
   ⟨(some 6), none, .f (.mv (.t 16))⟩])
 (.seq (.reg [
   ⟨(some 17), none, .f (.mv (.t 4))⟩,
   ⟨(some 18), none, .x (.call 66 [(.t 17), (.c (.int .i64 1))])⟩,
   ⟨(some 19), none, .f (.mv (.t 4))⟩,
   ⟨(some 20), none, .x (.call 66 [(.t 19), (.c (.int .i64 4))])⟩,
   ⟨(some 21), none, .f (.fadr 1 (.t 5))⟩,
   ⟨none, none, .x (.st 1 (.t 21) (.t 18))⟩,
   ⟨(some 22), none, .f (.fadr 2 (.t 5))⟩,
   ⟨none, none, .x (.st 1 (.t 22) (.t 20))⟩])
 (.seq (.reg [
   ⟨(some 23), none, .f (.mv (.t 4))⟩,
   ⟨(some 24), none, .f (.mv (.t 4))⟩,
   ⟨(some 25), none, .x (.call 66 [(.t 24), (.c (.int .i64 1))])⟩,
   ⟨(some 26), none, .x (.call 67 [(.t 23), (.t 25)])⟩,
   ⟨(some 27), none, .f (.b2s (.t 26))⟩,
   ⟨(some 28), none, .f (.fadr 3 (.t 5))⟩,
   ⟨none, none, .x (.st 1 (.t 28) (.t 27))⟩])
 (.seq (.seq (.reg [
   ⟨(some 29), none, .f (.mv (.t 4))⟩,
   ⟨(some 30), none, .x (.call 66 [(.t 29), (.c (.int .i64 1))])⟩,
   ⟨(some 7), none, .f (.mv (.t 30))⟩])
 (.block 0 (.loop (.seq (.seq (.reg [
     ⟨(some 31), none, .f (.mv (.t 7))⟩,
     ⟨(some 32), none, .f (.bin .gtr (.t 31) (.c (.int .i64 0)))⟩,
     ⟨(some 33), none, .f (.mv (.t 32))⟩,
     ⟨(some 34), (some (33, true)), .f (.mv (.t 4))⟩,
     ⟨(some 35), (some (33, true)), .f (.nck (.t 34))⟩,
     ⟨(some 36), (some (33, true)), .f (.fadr 1 (.t 35))⟩,
     ⟨(some 37), (some (33, true)), .f (.ld (.t 36))⟩,
     ⟨(some 38), (some (33, true)), .f (.un .not (.t 37))⟩,
     ⟨(some 39), none, .f (.pick (.t 33) (.t 38) (.c (.bool false)))⟩])
   (.cond (.t 39)
    .skip
    (.exit 0)))
   (.seq (.block 1 (.dreg [
      ⟨(some 42), none, .f (.fadr 4 (.t 5))⟩,
      ⟨(some 43), none, .f (.ld (.t 42))⟩,
      ⟨(some 44), none, .f (.mv (.t 4))⟩,
      ⟨(some 45), none, .x (.call 66 [(.t 44), (.c (.int .i64 4))])⟩,
      ⟨(some 46), none, .x (.bslice 2 1 [(.int .i64 0)] 1 [(0, (.t 45))])⟩,
      ⟨(some 47), none, .x (.app 2 1 8 (.t 43) (.t 46))⟩,
      ⟨(some 48), none, .f (.fadr 4 (.t 5))⟩,
      ⟨none, none, .x (.st 1 (.t 48) (.t 47))⟩]
      [false, false, false, true, true, true, false, true] [[], [0], [], [2], [3, 2], [1, 0, 4, 3, 2], [0, 1, 2, 3, 4, 5], [6, 0, 1, 2, 3, 4, 5]] [0, 1, 2, 3, 4, 5, 6, 7]))
   (.reg [
     ⟨(some 40), none, .f (.mv (.t 7))⟩,
     ⟨(some 41), none, .f (.bin .sub (.t 40) (.c (.int .i64 1)))⟩,
     ⟨(some 7), none, .f (.mv (.t 41))⟩]))))))
 (.seq (.reg [
   ⟨(some 49), none, .f (.mv (.t 4))⟩,
   ⟨(some 50), none, .f (.mv (.t 6))⟩,
   ⟨(some 51), none, .f (.fadr 3 (.t 5))⟩,
   ⟨(some 52), none, .f (.ld (.t 51))⟩,
   ⟨(some 53), none, .x (.call 68 [(.t 49), (.t 50), (.c (.int .i64 1)), (.t 52)])⟩,
   ⟨(some 8), none, .f (.mv (.t 53))⟩])
 (.seq (.seq (.reg [
   ⟨(some 54), none, .f (.mv (.t 8))⟩,
   ⟨(some 55), none, .f (.bin .eql (.t 54) (.c (.int .i64 0)))⟩,
   ⟨(some 56), none, .f (.mv (.t 55))⟩,
   ⟨(some 57), (some (56, true)), .f (.ldA 5 (.t 5))⟩,
   ⟨(some 58), (some (56, true)), .x (.call 72 [(.t 57)])⟩,
   ⟨(some 59), (some (56, true)), .f (.un .not (.t 58))⟩,
   ⟨(some 60), none, .f (.pick (.t 56) (.t 59) (.c (.bool false)))⟩])
 (.cond (.t 60)
  (.reg [
    ⟨(some 8), none, .f (.mv (.c (.int .i64 1)))⟩])
  .skip))
 (.seq (.seq (.reg [
   ⟨(some 61), none, .f (.mv (.t 8))⟩,
   ⟨(some 62), none, .f (.bin .neq (.t 61) (.c (.int .i64 0)))⟩])
 (.cond (.t 62)
  (.seq (.reg [
    ⟨(some 63), none, .f (.build [(.int .i64 0), (.int .i64 0), (.int .i64 0), (.str []), .nilslice] [])⟩,
    ⟨(some 64), none, .f (.mv (.t 8))⟩,
    ⟨none, none, .x (.st 5 (.t 2) (.t 63))⟩,
    ⟨(some 3), none, .f (.mv (.t 64))⟩])
  .ret)
  .skip))
 (.seq (.reg [
   ⟨(some 65), none, .f (.ldA 5 (.t 5))⟩,
   ⟨none, none, .x (.st 5 (.t 2) (.t 65))⟩,
   ⟨(some 3), none, .f (.mv (.c (.int .i64 0)))⟩])
 .ret)))))))))))
theorem ok32 : fnComp Tryd.prog 32 = some (66, c32, [(.ldA 5 (.t 2)), (.mv (.t 3))]) := by kernel_rfl

/-- loop.example/g00003/laws.heldNameReply -/
def c33 : CC :=
 (.seq (.reg [
   ⟨(some 2), none, .x (.box 44 5 (.t 0))⟩,
   ⟨(some 4), none, .f (.mv (.c (.int .i64 0)))⟩])
 (.seq (.reg [
   ⟨(some 5), none, .f (.fadr 4 (.t 2))⟩,
   ⟨(some 6), none, .f (.ld (.t 5))⟩,
   ⟨(some 7), none, .f (.mv (.t 1))⟩,
   ⟨(some 8), none, .x (.call 75 [(.t 6), (.t 7)])⟩,
   ⟨(some 1), none, .f (.mv (.t 8))⟩])
 (.seq (.seq (.reg [
   ⟨(some 9), none, .f (.mv (.t 1))⟩,
   ⟨(some 10), none, .f (.bin .lss (.t 9) (.c (.int .i64 0)))⟩])
 (.cond (.t 10)
  (.seq (.reg [
    ⟨(some 4), none, .f (.mv (.c (.int .i64 (-1))))⟩])
  .ret)
  .skip))
 (.seq (.reg [
   ⟨(some 11), none, .f (.mv (.t 1))⟩,
   ⟨(some 4), none, .f (.mv (.t 11))⟩])
 .ret))))
theorem ok33 : fnComp Tryd.prog 33 = some (12, c33, [(.mv (.t 4))]) := by kernel_rfl

end Go.Proofs.YtcmcfmgabafljaaDoor
