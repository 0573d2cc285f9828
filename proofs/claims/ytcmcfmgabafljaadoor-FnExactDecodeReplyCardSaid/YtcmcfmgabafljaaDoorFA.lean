import Derived.Test.YtcmcfmgabafljaaDoorIwP
import Derived.Test.YtcmcfmgabafljaaDoorProg
import Derived.KernelRfl
set_option linter.unusedVariables false
set_option linter.unusedSimpArgs false
namespace Go.Proofs.YtcmcfmgabafljaaDoor
open Go Go.IW
/-- loop.example/g00003/laws.FnExactNameOK -/
def c3 : CC :=
 (.seq (.reg [
   ⟨(some 2), none, .f (.mv (.c (.bool false)))⟩])
 (.seq (.seq (.reg [
   ⟨(some 5), none, .f (.mv (.t 0))⟩,
   ⟨(some 6), none, .f (.lenS (.t 5))⟩,
   ⟨(some 7), none, .f (.bin .gtr (.t 6) (.c (.int .i64 1048576)))⟩])
 (.cond (.t 7)
  (.seq (.reg [
    ⟨(some 2), none, .f (.mv (.c (.bool true)))⟩])
  .ret)
  .skip))
 (.seq (.reg [
   ⟨(some 8), none, .f (.mv (.t 0))⟩,
   ⟨(some 9), none, .x (.call 12 [(.t 8)])⟩,
   ⟨(some 3), none, .f (.mv (.t 9))⟩])
 (.seq (.reg [
   ⟨(some 10), none, .f (.mv (.t 0))⟩,
   ⟨(some 11), none, .x (.call 13 [(.t 10)])⟩,
   ⟨(some 4), none, .f (.mv (.t 11))⟩])
 (.seq (.seq (.reg [
   ⟨(some 12), none, .f (.mv (.t 4))⟩,
   ⟨(some 13), none, .f (.mv (.t 3))⟩,
   ⟨(some 14), none, .f (.binB true (.t 12) (.t 13))⟩])
 (.cond (.t 14)
  (.seq (.reg [
    ⟨(some 2), none, .f (.mv (.c (.bool false)))⟩])
  .ret)
  .skip))
 (.seq (.reg [
   ⟨(some 2), none, .f (.mv (.c (.bool true)))⟩])
 .ret))))))
theorem ok3 : fnComp Tryd.prog 3 = some (15, c3, [(.mv (.t 2))]) := by kernel_rfl

/-- loop.example/g00003/spec.NameOK -/
def c12 : CC :=
 (.seq (.reg [
   ⟨(some 2), none, .f (.mv (.c (.bool false)))⟩])
 (.seq (.seq (.reg [
   ⟨(some 5), none, .f (.mv (.t 0))⟩,
   ⟨(some 6), none, .f (.lenS (.t 5))⟩,
   ⟨(some 7), none, .f (.bin .gtr (.t 6) (.c (.int .i64 63)))⟩])
 (.cond (.t 7)
  (.seq (.reg [
    ⟨(some 2), none, .f (.mv (.c (.bool false)))⟩])
  .ret)
  .skip))
 (.seq (.reg [
   ⟨(some 8), none, .f (.mv (.t 0))⟩,
   ⟨(some 9), none, .x (.call 57 [(.t 8), (.c (.int .u8 46))])⟩,
   ⟨(some 3), none, .f (.mv (.t 9))⟩])
 (.seq (.seq (.reg [
   ⟨(some 4), none, .f (.mv (.c (.int .i64 0)))⟩])
 (.block 0 (.loop (.seq (.seq (.reg [
     ⟨(some 10), none, .f (.mv (.t 4))⟩,
     ⟨(some 11), none, .f (.mv (.t 3))⟩,
     ⟨(some 12), none, .f (.len (.t 11))⟩,
     ⟨(some 13), none, .f (.bin .lss (.t 10) (.t 12))⟩])
   (.cond (.t 13)
    .skip
    (.exit 0)))
   (.seq (.block 1 (.seq (.reg [
      ⟨(some 16), none, .f (.mv (.t 3))⟩,
      ⟨(some 17), none, .f (.mv (.t 4))⟩,
      ⟨(some 18), none, .f (.iadr 1 (.t 16) (.t 17))⟩,
      ⟨(some 19), none, .f (.ld (.t 18))⟩,
      ⟨(some 20), none, .x (.call 58 [(.t 19)])⟩,
      ⟨(some 21), none, .f (.un .not (.t 20))⟩])
    (.cond (.t 21)
     (.seq (.reg [
       ⟨(some 2), none, .f (.mv (.c (.bool false)))⟩])
     .ret)
     .skip)))
   (.reg [
     ⟨(some 14), none, .f (.mv (.t 4))⟩,
     ⟨(some 15), none, .f (.bin .add (.t 14) (.c (.int .i64 1)))⟩,
     ⟨(some 4), none, .f (.mv (.t 15))⟩]))))))
 (.seq (.reg [
   ⟨(some 2), none, .f (.mv (.c (.bool true)))⟩])
 .ret)))))
theorem ok12 : fnComp Tryd.prog 12 = some (22, c12, [(.mv (.t 2))]) := by kernel_rfl

/-- loop.example/g00003/impl.NameOK -/
def c13 : CC :=
 (.seq (.reg [
   ⟨(some 2), none, .f (.mv (.c (.bool false)))⟩])
 (.seq (.seq (.reg [
   ⟨(some 7), none, .f (.mv (.t 0))⟩,
   ⟨(some 8), none, .f (.lenS (.t 7))⟩,
   ⟨(some 9), none, .f (.bin .lss (.t 8) (.c (.int .i64 1)))⟩,
   ⟨(some 10), none, .f (.mv (.t 9))⟩,
   ⟨(some 11), (some (10, false)), .f (.mv (.t 0))⟩,
   ⟨(some 12), (some (10, false)), .f (.lenS (.t 11))⟩,
   ⟨(some 13), (some (10, false)), .f (.bin .gtr (.t 12) (.c (.int .i64 63)))⟩,
   ⟨(some 14), none, .f (.pick (.t 10) (.c (.bool true)) (.t 13))⟩])
 (.cond (.t 14)
  (.seq (.reg [
    ⟨(some 2), none, .f (.mv (.c (.bool false)))⟩])
  .ret)
  .skip))
 (.seq (.seq (.reg [
   ⟨(some 15), none, .f (.mv (.t 0))⟩,
   ⟨(some 16), none, .x (.call 59 [(.t 15), (.c (.str [46]))])⟩,
   ⟨(some 17), none, .f (.len (.t 16))⟩,
   ⟨(some 18), none, .f (.mv (.c (.int .i64 0)))⟩])
 (.block 0 (.loop (.seq (.reg [
     ⟨(some 19), none, .f (.bin .lss (.t 18) (.t 17))⟩])
   (.seq (.cond (.t 19)
    .skip
    (.exit 0))
   (.seq (.block 1 (.seq (.reg [
      ⟨(some 20), none, .f (.iadr 1 (.t 16) (.t 18))⟩,
      ⟨(some 21), none, .f (.ld (.t 20))⟩,
      ⟨(some 4), none, .f (.mv (.t 21))⟩])
    (.seq (.seq (.reg [
      ⟨(some 22), none, .f (.mv (.t 4))⟩,
      ⟨(some 23), none, .f (.lenS (.t 22))⟩,
      ⟨(some 24), none, .f (.bin .lss (.t 23) (.c (.int .i64 1)))⟩,
      ⟨(some 25), none, .f (.mv (.t 24))⟩,
      ⟨(some 26), (some (25, false)), .f (.mv (.t 4))⟩,
      ⟨(some 27), (some (25, false)), .f (.lenS (.t 26))⟩,
      ⟨(some 28), (some (25, false)), .f (.bin .gtr (.t 27) (.c (.int .i64 20)))⟩,
      ⟨(some 29), none, .f (.pick (.t 25) (.c (.bool true)) (.t 28))⟩,
      ⟨(some 30), none, .f (.mv (.t 29))⟩,
      ⟨(some 31), (some (30, false)), .f (.mv (.t 4))⟩,
      ⟨(some 32), (some (30, false)), .f (.idxS (.t 31) (.c (.int .i64 0)))⟩,
      ⟨(some 33), (some (30, false)), .f (.bin .eql (.t 32) (.c (.int .u8 45)))⟩,
      ⟨(some 34), none, .f (.pick (.t 30) (.c (.bool true)) (.t 33))⟩,
      ⟨(some 35), none, .f (.mv (.t 34))⟩,
      ⟨(some 36), (some (35, false)), .f (.mv (.t 4))⟩,
      ⟨(some 37), (some (35, false)), .f (.mv (.t 4))⟩,
      ⟨(some 38), (some (35, false)), .f (.lenS (.t 37))⟩,
      ⟨(some 39), (some (35, false)), .f (.bin .sub (.t 38) (.c (.int .i64 1)))⟩,
      ⟨(some 40), (some (35, false)), .f (.idxS (.t 36) (.t 39))⟩,
      ⟨(some 41), (some (35, false)), .f (.bin .eql (.t 40) (.c (.int .u8 45)))⟩,
      ⟨(some 42), none, .f (.pick (.t 35) (.c (.bool true)) (.t 41))⟩])
    (.cond (.t 42)
     (.seq (.reg [
       ⟨(some 2), none, .f (.mv (.c (.bool false)))⟩])
     .ret)
     .skip))
    (.seq (.reg [
      ⟨(some 43), none, .f (.mv (.t 4))⟩,
      ⟨(some 44), none, .x (.s2b 5 (.t 43))⟩,
      ⟨(some 45), none, .f (.len (.t 44))⟩,
      ⟨(some 46), none, .f (.mv (.c (.int .i64 0)))⟩])
    (.block 2 (.loop (.seq (.reg [
        ⟨(some 47), none, .f (.bin .lss (.t 46) (.t 45))⟩])
      (.seq (.cond (.t 47)
       .skip
       (.exit 2))
      (.seq (.block 3 (.seq (.reg [
         ⟨(some 48), none, .f (.iadr 1 (.t 44) (.t 46))⟩,
         ⟨(some 49), none, .f (.ld (.t 48))⟩,
         ⟨(some 6), none, .f (.mv (.t 49))⟩])
       (.seq (.reg [
         ⟨(some 50), none, .f (.mv (.t 6))⟩,
         ⟨(some 51), none, .f (.bin .geq (.t 50) (.c (.int .u8 97)))⟩,
         ⟨(some 52), none, .f (.mv (.t 51))⟩,
         ⟨(some 53), (some (52, true)), .f (.mv (.t 6))⟩,
         ⟨(some 54), (some (52, true)), .f (.bin .leq (.t 53) (.c (.int .u8 122)))⟩,
         ⟨(some 55), none, .f (.pick (.t 52) (.t 54) (.c (.bool false)))⟩,
         ⟨(some 56), none, .f (.mv (.t 55))⟩,
         ⟨(some 57), (some (56, false)), .f (.mv (.t 6))⟩,
         ⟨(some 58), (some (56, false)), .f (.bin .geq (.t 57) (.c (.int .u8 48)))⟩,
         ⟨(some 59), (some (56, false)), .f (.mv (.t 58))⟩,
         ⟨(some 60), (some (59, true)), .f (.mv (.t 6))⟩,
         ⟨(some 61), (some (59, true)), .f (.bin .leq (.t 60) (.c (.int .u8 57)))⟩,
         ⟨(some 62), (some (56, false)), .f (.pick (.t 59) (.t 61) (.c (.bool false)))⟩,
         ⟨(some 63), none, .f (.pick (.t 56) (.c (.bool true)) (.t 62))⟩,
         ⟨(some 64), none, .f (.mv (.t 63))⟩,
         ⟨(some 65), (some (64, false)), .f (.mv (.t 6))⟩,
         ⟨(some 66), (some (64, false)), .f (.bin .eql (.t 65) (.c (.int .u8 45)))⟩,
         ⟨(some 67), none, .f (.pick (.t 64) (.c (.bool true)) (.t 66))⟩,
         ⟨(some 68), none, .f (.un .not (.t 67))⟩])
       (.cond (.t 68)
        (.seq (.reg [
          ⟨(some 2), none, .f (.mv (.c (.bool false)))⟩])
        .ret)
        .skip))))
      (.reg [
        ⟨(some 69), none, .f (.bin .add (.t 46) (.c (.int .i64 1)))⟩,
        ⟨(some 46), none, .f (.mv (.t 69))⟩]))))))))))
   (.reg [
     ⟨(some 70), none, .f (.bin .add (.t 18) (.c (.int .i64 1)))⟩,
     ⟨(some 18), none, .f (.mv (.t 70))⟩])))))))
 (.seq (.reg [
   ⟨(some 2), none, .f (.mv (.c (.bool true)))⟩])
 .ret))))
theorem ok13 : fnComp Tryd.prog 13 = some (71, c13, [(.mv (.t 2))]) := by kernel_rfl

/-- loop.example/g00003/spec.l02Cut -/
def c57 : CC :=
 (.seq (.reg [
   ⟨(some 4), none, .f (.mv (.c .nilslice))⟩])
 (.seq (.reg [
   ⟨(some 8), none, .x (.bslice 9 1 [(.str [])] 0 [])⟩,
   ⟨(some 5), none, .f (.mv (.t 8))⟩])
 (.seq (.reg [
   ⟨(some 6), none, .f (.mv (.c (.int .i64 0)))⟩])
 (.seq (.seq (.reg [
   ⟨(some 7), none, .f (.mv (.c (.int .i64 0)))⟩])
 (.block 0 (.loop (.seq (.seq (.reg [
     ⟨(some 9), none, .f (.mv (.t 7))⟩,
     ⟨(some 10), none, .f (.mv (.t 0))⟩,
     ⟨(some 11), none, .f (.lenS (.t 10))⟩,
     ⟨(some 12), none, .f (.bin .lss (.t 9) (.t 11))⟩])
   (.cond (.t 12)
    .skip
    (.exit 0)))
   (.seq (.block 1 (.seq (.reg [
      ⟨(some 15), none, .f (.mv (.t 0))⟩,
      ⟨(some 16), none, .f (.mv (.t 7))⟩,
      ⟨(some 17), none, .f (.idxS (.t 15) (.t 16))⟩,
      ⟨(some 18), none, .f (.mv (.t 1))⟩,
      ⟨(some 19), none, .f (.bin .eql (.t 17) (.t 18))⟩])
    (.cond (.t 19)
     (.seq (.reg [
       ⟨(some 20), none, .f (.mv (.t 5))⟩,
       ⟨(some 21), none, .f (.mv (.t 0))⟩,
       ⟨(some 22), none, .f (.mv (.t 6))⟩,
       ⟨(some 23), none, .f (.mv (.t 7))⟩,
       ⟨(some 24), none, .f (.slcS (.t 21) (some (.t 22)) (some (.t 23)))⟩,
       ⟨(some 25), none, .x (.bslice 9 1 [(.str [])] 1 [(0, (.t 24))])⟩,
       ⟨(some 26), none, .x (.app 9 1 16 (.t 20) (.t 25))⟩,
       ⟨(some 5), none, .f (.mv (.t 26))⟩])
     (.reg [
       ⟨(some 27), none, .f (.mv (.t 7))⟩,
       ⟨(some 28), none, .f (.bin .add (.t 27) (.c (.int .i64 1)))⟩,
       ⟨(some 6), none, .f (.mv (.t 28))⟩]))
     .skip)))
   (.reg [
     ⟨(some 13), none, .f (.mv (.t 7))⟩,
     ⟨(some 14), none, .f (.bin .add (.t 13) (.c (.int .i64 1)))⟩,
     ⟨(some 7), none, .f (.mv (.t 14))⟩]))))))
 (.seq (.reg [
   ⟨(some 29), none, .f (.mv (.t 5))⟩,
   ⟨(some 30), none, .f (.mv (.t 0))⟩,
   ⟨(some 31), none, .f (.mv (.t 6))⟩,
   ⟨(some 32), none, .f (.slcS (.t 30) (some (.t 31)) none)⟩,
   ⟨(some 33), none, .x (.bslice 9 1 [(.str [])] 1 [(0, (.t 32))])⟩,
   ⟨(some 34), none, .x (.app 9 1 16 (.t 29) (.t 33))⟩,
   ⟨(some 4), none, .f (.mv (.t 34))⟩])
 .ret)))))
theorem ok57 : fnComp Tryd.prog 57 = some (35, c57, [(.mv (.t 4))]) := by kernel_rfl

/-- loop.example/g00003/spec.l19Label -/
def c58 : CC :=
 (.seq (.reg [
   ⟨(some 2), none, .f (.mv (.c (.bool false)))⟩])
 (.seq (.seq (.reg [
   ⟨(some 4), none, .f (.mv (.t 0))⟩,
   ⟨(some 5), none, .f (.lenS (.t 4))⟩,
   ⟨(some 6), none, .f (.bin .lss (.t 5) (.c (.int .i64 1)))⟩,
   ⟨(some 7), none, .f (.mv (.t 6))⟩,
   ⟨(some 8), (some (7, false)), .f (.mv (.t 0))⟩,
   ⟨(some 9), (some (7, false)), .f (.lenS (.t 8))⟩,
   ⟨(some 10), (some (7, false)), .f (.bin .gtr (.t 9) (.c (.int .i64 20)))⟩,
   ⟨(some 11), none, .f (.pick (.t 7) (.c (.bool true)) (.t 10))⟩,
   ⟨(some 12), none, .f (.mv (.t 11))⟩,
   ⟨(some 13), (some (12, false)), .f (.mv (.t 0))⟩,
   ⟨(some 14), (some (12, false)), .f (.idxS (.t 13) (.c (.int .i64 0)))⟩,
   ⟨(some 15), (some (12, false)), .f (.bin .eql (.t 14) (.c (.int .u8 45)))⟩,
   ⟨(some 16), none, .f (.pick (.t 12) (.c (.bool true)) (.t 15))⟩,
   ⟨(some 17), none, .f (.mv (.t 16))⟩,
   ⟨(some 18), (some (17, false)), .f (.mv (.t 0))⟩,
   ⟨(some 19), (some (17, false)), .f (.mv (.t 0))⟩,
   ⟨(some 20), (some (17, false)), .f (.lenS (.t 19))⟩,
   ⟨(some 21), (some (17, false)), .f (.bin .sub (.t 20) (.c (.int .i64 1)))⟩,
   ⟨(some 22), (some (17, false)), .f (.idxS (.t 18) (.t 21))⟩,
   ⟨(some 23), (some (17, false)), .f (.bin .eql (.t 22) (.c (.int .u8 45)))⟩,
   ⟨(some 24), none, .f (.pick (.t 17) (.c (.bool true)) (.t 23))⟩])
 (.cond (.t 24)
  (.seq (.reg [
    ⟨(some 2), none, .f (.mv (.c (.bool false)))⟩])
  .ret)
  .skip))
 (.seq (.seq (.reg [
   ⟨(some 3), none, .f (.mv (.c (.int .i64 0)))⟩])
 (.block 0 (.loop (.seq (.seq (.reg [
     ⟨(some 25), none, .f (.mv (.t 3))⟩,
     ⟨(some 26), none, .f (.mv (.t 0))⟩,
     ⟨(some 27), none, .f (.lenS (.t 26))⟩,
     ⟨(some 28), none, .f (.bin .lss (.t 25) (.t 27))⟩])
   (.cond (.t 28)
    .skip
    (.exit 0)))
   (.seq (.block 1 (.seq (.reg [
      ⟨(some 31), none, .f (.mv (.t 0))⟩,
      ⟨(some 32), none, .f (.mv (.t 3))⟩,
      ⟨(some 33), none, .f (.idxS (.t 31) (.t 32))⟩,
      ⟨(some 34), none, .f (.bin .lss (.t 33) (.c (.int .u8 97)))⟩,
      ⟨(some 35), none, .f (.mv (.t 34))⟩,
      ⟨(some 36), (some (35, false)), .f (.mv (.t 0))⟩,
      ⟨(some 37), (some (35, false)), .f (.mv (.t 3))⟩,
      ⟨(some 38), (some (35, false)), .f (.idxS (.t 36) (.t 37))⟩,
      ⟨(some 39), (some (35, false)), .f (.bin .gtr (.t 38) (.c (.int .u8 122)))⟩,
      ⟨(some 40), none, .f (.pick (.t 35) (.c (.bool true)) (.t 39))⟩,
      ⟨(some 41), none, .f (.mv (.t 40))⟩,
      ⟨(some 42), (some (41, true)), .f (.mv (.t 0))⟩,
      ⟨(some 43), (some (41, true)), .f (.mv (.t 3))⟩,
      ⟨(some 44), (some (41, true)), .f (.idxS (.t 42) (.t 43))⟩,
      ⟨(some 45), (some (41, true)), .f (.bin .lss (.t 44) (.c (.int .u8 48)))⟩,
      ⟨(some 46), (some (41, true)), .f (.mv (.t 45))⟩,
      ⟨(some 47), (some (46, false)), .f (.mv (.t 0))⟩,
      ⟨(some 48), (some (46, false)), .f (.mv (.t 3))⟩,
      ⟨(some 49), (some (46, false)), .f (.idxS (.t 47) (.t 48))⟩,
      ⟨(some 50), (some (46, false)), .f (.bin .gtr (.t 49) (.c (.int .u8 57)))⟩,
      ⟨(some 51), (some (41, true)), .f (.pick (.t 46) (.c (.bool true)) (.t 50))⟩,
      ⟨(some 52), none, .f (.pick (.t 41) (.t 51) (.c (.bool false)))⟩,
      ⟨(some 53), none, .f (.mv (.t 52))⟩,
      ⟨(some 54), (some (53, true)), .f (.mv (.t 0))⟩,
      ⟨(some 55), (some (53, true)), .f (.mv (.t 3))⟩,
      ⟨(some 56), (some (53, true)), .f (.idxS (.t 54) (.t 55))⟩,
      ⟨(some 57), (some (53, true)), .f (.bin .neq (.t 56) (.c (.int .u8 45)))⟩,
      ⟨(some 58), none, .f (.pick (.t 53) (.t 57) (.c (.bool false)))⟩])
    (.cond (.t 58)
     (.seq (.reg [
       ⟨(some 2), none, .f (.mv (.c (.bool false)))⟩])
     .ret)
     .skip)))
   (.reg [
     ⟨(some 29), none, .f (.mv (.t 3))⟩,
     ⟨(some 30), none, .f (.bin .add (.t 29) (.c (.int .i64 1)))⟩,
     ⟨(some 3), none, .f (.mv (.t 30))⟩]))))))
 (.seq (.reg [
   ⟨(some 2), none, .f (.mv (.c (.bool true)))⟩])
 .ret))))
theorem ok58 : fnComp Tryd.prog 58 = some (59, c58, [(.mv (.t 2))]) := by kernel_rfl

/-- strings.Split -/
def c59 : CC :=
 (.seq (.reg [
   ⟨(some 4), none, .f (.mv (.c .nilslice))⟩])
 (.seq (.reg [
   ⟨(some 5), none, .f (.mv (.t 0))⟩,
   ⟨(some 6), none, .f (.mv (.t 1))⟩,
   ⟨(some 7), none, .x (.call 106 [(.t 5), (.t 6), (.c (.int .i64 0)), (.c (.int .i64 (-1)))])⟩,
   ⟨(some 4), none, .f (.mv (.t 7))⟩])
 .ret))
theorem ok59 : fnComp Tryd.prog 59 = some (8, c59, [(.mv (.t 4))]) := by kernel_rfl

/-- strings.genSplit -/
def c106 : CC :=
 (.seq (.reg [
   ⟨(some 8), none, .f (.mv (.c .nilslice))⟩])
 (.seq (.seq (.reg [
   ⟨(some 12), none, .f (.mv (.t 3))⟩,
   ⟨(some 13), none, .f (.bin .eql (.t 12) (.c (.int .i64 0)))⟩])
 (.cond (.t 13)
  (.seq (.reg [
    ⟨(some 8), none, .f (.mv (.c .nilslice))⟩])
  .ret)
  .skip))
 (.seq (.seq (.reg [
   ⟨(some 14), none, .f (.mv (.t 1))⟩,
   ⟨(some 15), none, .f (.bin .eql (.t 14) (.c (.str [])))⟩])
 (.cond (.t 15)
  (.seq (.reg [
    ⟨(some 16), none, .f (.mv (.t 0))⟩,
    ⟨(some 17), none, .f (.mv (.t 3))⟩,
    ⟨(some 18), none, .x (.call 130 [(.t 16), (.t 17)])⟩,
    ⟨(some 8), none, .f (.mv (.t 18))⟩])
  .ret)
  .skip))
 (.seq (.seq (.reg [
   ⟨(some 19), none, .f (.mv (.t 3))⟩,
   ⟨(some 20), none, .f (.bin .lss (.t 19) (.c (.int .i64 0)))⟩])
 (.cond (.t 20)
  (.reg [
    ⟨(some 21), none, .f (.mv (.t 0))⟩,
    ⟨(some 22), none, .f (.mv (.t 1))⟩,
    ⟨(some 23), none, .x (.call 131 [(.t 21), (.t 22)])⟩,
    ⟨(some 24), none, .f (.bin .add (.t 23) (.c (.int .i64 1)))⟩,
    ⟨(some 3), none, .f (.mv (.t 24))⟩])
  .skip))
 (.seq (.reg [
   ⟨(some 25), none, .f (.mv (.t 3))⟩,
   ⟨(some 26), none, .f (.mv (.t 0))⟩,
   ⟨(some 27), none, .f (.lenS (.t 26))⟩,
   ⟨(some 28), none, .f (.bin .add (.t 27) (.c (.int .i64 1)))⟩,
   ⟨(some 29), none, .f (.mm false (.t 25) (.t 28))⟩,
   ⟨(some 3), none, .f (.mv (.t 29))⟩])
 (.seq (.reg [
   ⟨(some 30), none, .f (.mv (.t 3))⟩,
   ⟨(some 31), none, .x (.mks 9 1 16 [(.str [])] (.t 30) (.t 30))⟩,
   ⟨(some 9), none, .f (.mv (.t 31))⟩])
 (.seq (.reg [
   ⟨(some 32), none, .f (.mv (.t 3))⟩,
   ⟨(some 33), none, .f (.bin .sub (.t 32) (.c (.int .i64 1)))⟩,
   ⟨(some 3), none, .f (.mv (.t 33))⟩])
 (.seq (.reg [
   ⟨(some 10), none, .f (.mv (.c (.int .i64 0)))⟩])
 (.seq (.block 0 (.loop (.seq (.seq (.reg [
     ⟨(some 34), none, .f (.mv (.t 10))⟩,
     ⟨(some 35), none, .f (.mv (.t 3))⟩,
     ⟨(some 36), none, .f (.bin .lss (.t 34) (.t 35))⟩])
   (.cond (.t 36)
    .skip
    (.exit 0)))
   (.block 1 (.seq (.reg [
      ⟨(some 37), none, .f (.mv (.t 0))⟩,
      ⟨(some 38), none, .f (.mv (.t 1))⟩,
      ⟨(some 39), none, .x (.call 132 [(.t 37), (.t 38)])⟩,
      ⟨(some 11), none, .f (.mv (.t 39))⟩])
    (.seq (.seq (.reg [
      ⟨(some 40), none, .f (.mv (.t 11))⟩,
      ⟨(some 41), none, .f (.bin .lss (.t 40) (.c (.int .i64 0)))⟩])
    (.cond (.t 41)
     (.exit 0)
     .skip))
    (.seq (.reg [
      ⟨(some 42), none, .f (.mv (.t 9))⟩,
      ⟨(some 43), none, .f (.mv (.t 10))⟩,
      ⟨(some 44), none, .f (.mv (.t 0))⟩,
      ⟨(some 45), none, .f (.mv (.t 11))⟩,
      ⟨(some 46), none, .f (.mv (.t 2))⟩,
      ⟨(some 47), none, .f (.bin .add (.t 45) (.t 46))⟩,
      ⟨(some 48), none, .f (.slcS (.t 44) none (some (.t 47)))⟩,
      ⟨(some 49), none, .f (.iadr 1 (.t 42) (.t 43))⟩,
      ⟨none, none, .x (.st 1 (.t 49) (.t 48))⟩])
    (.seq (.reg [
      ⟨(some 50), none, .f (.mv (.t 0))⟩,
      ⟨(some 51), none, .f (.mv (.t 11))⟩,
      ⟨(some 52), none, .f (.mv (.t 1))⟩,
      ⟨(some 53), none, .f (.lenS (.t 52))⟩,
      ⟨(some 54), none, .f (.bin .add (.t 51) (.t 53))⟩,
      ⟨(some 55), none, .f (.slcS (.t 50) (some (.t 54)) none)⟩,
      ⟨(some 0), none, .f (.mv (.t 55))⟩])
    (.reg [
      ⟨(some 56), none, .f (.mv (.t 10))⟩,
      ⟨(some 57), none, .f (.bin .add (.t 56) (.c (.int .i64 1)))⟩,
      ⟨(some 10), none, .f (.mv (.t 57))⟩])))))))))
 (.seq (.reg [
   ⟨(some 58), none, .f (.mv (.t 9))⟩,
   ⟨(some 59), none, .f (.mv (.t 10))⟩,
   ⟨(some 60), none, .f (.mv (.t 0))⟩,
   ⟨(some 61), none, .f (.iadr 1 (.t 58) (.t 59))⟩,
   ⟨none, none, .x (.st 1 (.t 61) (.t 60))⟩])
 (.seq (.reg [
   ⟨(some 62), none, .f (.mv (.t 9))⟩,
   ⟨(some 63), none, .f (.mv (.t 10))⟩,
   ⟨(some 64), none, .f (.bin .add (.t 63) (.c (.int .i64 1)))⟩,
   ⟨(some 65), none, .f (.slc 1 (.t 62) none (some (.t 64)) none)⟩,
   ⟨(some 8), none, .f (.mv (.t 65))⟩])
 .ret)))))))))))
theorem ok106 : fnComp Tryd.prog 106 = some (66, c106, [(.mv (.t 8))]) := by kernel_rfl

/-- strings.Count -/
def c131 : CC :=
 (.seq (.reg [
   ⟨(some 4), none, .f (.mv (.c (.int .i64 0)))⟩])
 (.seq (.seq (.reg [
   ⟨(some 7), none, .f (.mv (.t 1))⟩,
   ⟨(some 8), none, .f (.lenS (.t 7))⟩,
   ⟨(some 9), none, .f (.bin .eql (.t 8) (.c (.int .i64 0)))⟩])
 (.cond (.t 9)
  (.seq (.reg [
    ⟨(some 10), none, .f (.mv (.t 0))⟩,
    ⟨(some 11), none, .x (.call 143 [(.t 10)])⟩,
    ⟨(some 12), none, .f (.bin .add (.t 11) (.c (.int .i64 1)))⟩,
    ⟨(some 4), none, .f (.mv (.t 12))⟩])
  .ret)
  .skip))
 (.seq (.seq (.reg [
   ⟨(some 13), none, .f (.mv (.t 1))⟩,
   ⟨(some 14), none, .f (.lenS (.t 13))⟩,
   ⟨(some 15), none, .f (.bin .eql (.t 14) (.c (.int .i64 1)))⟩])
 (.cond (.t 15)
  (.seq (.reg [
    ⟨(some 16), none, .f (.mv (.t 0))⟩,
    ⟨(some 17), none, .f (.mv (.t 1))⟩,
    ⟨(some 18), none, .f (.idxS (.t 17) (.c (.int .i64 0)))⟩,
    ⟨(some 19), none, .x (.call 145 [(.t 16), (.t 18)])⟩,
    ⟨(some 4), none, .f (.mv (.t 19))⟩])
  .ret)
  .skip))
 (.seq (.reg [
   ⟨(some 5), none, .f (.mv (.c (.int .i64 0)))⟩])
 (.block 0 (.loop (.block 1 (.seq (.reg [
      ⟨(some 20), none, .f (.mv (.t 0))⟩,
      ⟨(some 21), none, .f (.mv (.t 1))⟩,
      ⟨(some 22), none, .x (.call 132 [(.t 20), (.t 21)])⟩,
      ⟨(some 6), none, .f (.mv (.t 22))⟩])
    (.seq (.seq (.reg [
      ⟨(some 23), none, .f (.mv (.t 6))⟩,
      ⟨(some 24), none, .f (.bin .eql (.t 23) (.c (.int .i64 (-1))))⟩])
    (.cond (.t 24)
     (.seq (.reg [
       ⟨(some 25), none, .f (.mv (.t 5))⟩,
       ⟨(some 4), none, .f (.mv (.t 25))⟩])
     .ret)
     .skip))
    (.seq (.reg [
      ⟨(some 26), none, .f (.mv (.t 5))⟩,
      ⟨(some 27), none, .f (.bin .add (.t 26) (.c (.int .i64 1)))⟩,
      ⟨(some 5), none, .f (.mv (.t 27))⟩])
    (.reg [
      ⟨(some 28), none, .f (.mv (.t 0))⟩,
      ⟨(some 29), none, .f (.mv (.t 6))⟩,
      ⟨(some 30), none, .f (.mv (.t 1))⟩,
      ⟨(some 31), none, .f (.lenS (.t 30))⟩,
      ⟨(some 32), none, .f (.bin .add (.t 29) (.t 31))⟩,
      ⟨(some 33), none, .f (.slcS (.t 28) (some (.t 32)) none)⟩,
      ⟨(some 0), none, .f (.mv (.t 33))⟩])))))))))))
theorem ok131 : fnComp Tryd.prog 131 = some (34, c131, [(.mv (.t 4))]) := by kernel_rfl

/-- strings.Index -/
def c132 : CC :=
 (.seq (.reg [
   ⟨(some 4), none, .f (.mv (.c (.int .i64 0)))⟩])
 (.seq (.reg [
   ⟨(some 5), none, .f (.mv (.t 0))⟩,
   ⟨(some 6), none, .f (.mv (.t 1))⟩,
   ⟨(some 7), none, .x (.call 146 [(.t 5), (.t 6)])⟩,
   ⟨(some 4), none, .f (.mv (.t 7))⟩])
 .ret))
theorem ok132 : fnComp Tryd.prog 132 = some (8, c132, [(.mv (.t 4))]) := by kernel_rfl

/-- internal/stringslite.Index -/
def c146 : CC :=
 (.seq (.reg [
   ⟨(some 4), none, .f (.mv (.c (.int .i64 0)))⟩])
 (.seq (.reg [
   ⟨(some 14), none, .f (.mv (.t 1))⟩,
   ⟨(some 15), none, .f (.lenS (.t 14))⟩,
   ⟨(some 5), none, .f (.mv (.t 15))⟩])
 (.seq (.block 0 (.seq (.reg [
    ⟨(some 17), none, .f (.mv (.t 5))⟩,
    ⟨(some 18), none, .f (.bin .eql (.t 17) (.c (.int .i64 0)))⟩,
    ⟨(some 19), none, .f (.mv (.t 18))⟩,
    ⟨(some 20), (some (19, false)), .f (.mv (.t 1))⟩,
    ⟨(some 21), (some (19, false)), .f (.mv (.t 0))⟩,
    ⟨(some 22), (some (19, false)), .f (.bin .eql (.t 20) (.t 21))⟩,
    ⟨(some 23), none, .f (.pick (.t 19) (.c (.bool true)) (.t 22))⟩,
    ⟨(some 16), none, .f (.mv (.t 23))⟩])
  (.cond (.t 16)
   (.seq (.reg [
     ⟨(some 4), none, .f (.mv (.c (.int .i64 0)))⟩])
   .ret)
   (.seq (.reg [
     ⟨(some 25), none, .f (.mv (.t 5))⟩,
     ⟨(some 26), none, .f (.bin .eql (.t 25) (.c (.int .i64 1)))⟩,
     ⟨(some 24), none, .f (.mv (.t 26))⟩])
   (.cond (.t 24)
    (.seq (.reg [
      ⟨(some 27), none, .f (.mv (.t 0))⟩,
      ⟨(some 28), none, .f (.mv (.t 1))⟩,
      ⟨(some 29), none, .f (.idxS (.t 28) (.c (.int .i64 0)))⟩,
      ⟨(some 30), none, .x (.call 155 [(.t 27), (.t 29)])⟩,
      ⟨(some 4), none, .f (.mv (.t 30))⟩])
    .ret)
    (.seq (.reg [
      ⟨(some 32), none, .f (.mv (.t 5))⟩,
      ⟨(some 33), none, .f (.mv (.t 0))⟩,
      ⟨(some 34), none, .f (.lenS (.t 33))⟩,
      ⟨(some 35), none, .f (.bin .geq (.t 32) (.t 34))⟩,
      ⟨(some 31), none, .f (.mv (.t 35))⟩])
    (.cond (.t 31)
     (.seq (.reg [
       ⟨(some 4), none, .f (.mv (.c (.int .i64 (-1))))⟩])
     .ret)
     (.seq (.reg [
       ⟨(some 37), none, .f (.mv (.t 5))⟩,
       ⟨(some 38), none, .x (.ux .bad [])⟩,
       ⟨(some 39), none, .f (.bin .leq (.t 37) (.t 38))⟩,
       ⟨(some 40), none, .f (.mv (.t 39))⟩,
       ⟨(some 41), (some (40, true)), .f (.mv (.t 0))⟩,
       ⟨(some 42), (some (40, true)), .f (.lenS (.t 41))⟩,
       ⟨(some 43), (some (40, true)), .f (.bin .leq (.t 42) (.c (.int .i64 64)))⟩,
       ⟨(some 44), none, .f (.pick (.t 40) (.t 43) (.c (.bool false)))⟩,
       ⟨(some 36), none, .f (.mv (.t 44))⟩])
     (.cond (.t 36)
      (.seq (.reg [
        ⟨(some 45), none, .f (.mv (.t 0))⟩,
        ⟨(some 46), none, .f (.mv (.t 1))⟩,
        ⟨(some 47), none, .x (.call 157 [(.t 45), (.t 46)])⟩,
        ⟨(some 4), none, .f (.mv (.t 47))⟩])
      .ret)
      .skip)))))))))
 (.seq (.reg [
   ⟨(some 48), none, .f (.mv (.t 1))⟩,
   ⟨(some 49), none, .f (.idxS (.t 48) (.c (.int .i64 0)))⟩,
   ⟨(some 6), none, .f (.mv (.t 49))⟩])
 (.seq (.reg [
   ⟨(some 50), none, .f (.mv (.t 1))⟩,
   ⟨(some 51), none, .f (.idxS (.t 50) (.c (.int .i64 1)))⟩,
   ⟨(some 7), none, .f (.mv (.t 51))⟩])
 (.seq (.reg [
   ⟨(some 8), none, .f (.mv (.c (.int .i64 0)))⟩])
 (.seq (.reg [
   ⟨(some 52), none, .f (.mv (.t 0))⟩,
   ⟨(some 53), none, .f (.lenS (.t 52))⟩,
   ⟨(some 54), none, .f (.mv (.t 5))⟩,
   ⟨(some 55), none, .f (.bin .sub (.t 53) (.t 54))⟩,
   ⟨(some 56), none, .f (.bin .add (.t 55) (.c (.int .i64 1)))⟩,
   ⟨(some 9), none, .f (.mv (.t 56))⟩])
 (.seq (.reg [
   ⟨(some 10), none, .f (.mv (.c (.int .i64 0)))⟩])
 (.seq (.block 1 (.loop (.seq (.seq (.reg [
     ⟨(some 57), none, .f (.mv (.t 8))⟩,
     ⟨(some 58), none, .f (.mv (.t 9))⟩,
     ⟨(some 59), none, .f (.bin .lss (.t 57) (.t 58))⟩])
   (.cond (.t 59)
    .skip
    (.exit 1)))
   (.block 2 (.seq (.seq (.reg [
      ⟨(some 60), none, .f (.mv (.t 0))⟩,
      ⟨(some 61), none, .f (.mv (.t 8))⟩,
      ⟨(some 62), none, .f (.idxS (.t 60) (.t 61))⟩,
      ⟨(some 63), none, .f (.mv (.t 6))⟩,
      ⟨(some 64), none, .f (.bin .neq (.t 62) (.t 63))⟩])
    (.cond (.t 64)
     (.seq (.reg [
       ⟨(some 65), none, .f (.mv (.t 0))⟩,
       ⟨(some 66), none, .f (.mv (.t 8))⟩,
       ⟨(some 67), none, .f (.bin .add (.t 66) (.c (.int .i64 1)))⟩,
       ⟨(some 68), none, .f (.mv (.t 9))⟩,
       ⟨(some 69), none, .f (.slcS (.t 65) (some (.t 67)) (some (.t 68)))⟩,
       ⟨(some 70), none, .f (.mv (.t 6))⟩,
       ⟨(some 71), none, .x (.call 155 [(.t 69), (.t 70)])⟩,
       ⟨(some 11), none, .f (.mv (.t 71))⟩])
     (.seq (.seq (.reg [
       ⟨(some 72), none, .f (.mv (.t 11))⟩,
       ⟨(some 73), none, .f (.bin .lss (.t 72) (.c (.int .i64 0)))⟩])
     (.cond (.t 73)
      (.seq (.reg [
        ⟨(some 4), none, .f (.mv (.c (.int .i64 (-1))))⟩])
      .ret)
      .skip))
     (.reg [
       ⟨(some 74), none, .f (.mv (.t 8))⟩,
       ⟨(some 75), none, .f (.mv (.t 11))⟩,
       ⟨(some 76), none, .f (.bin .add (.t 75) (.c (.int .i64 1)))⟩,
       ⟨(some 77), none, .f (.bin .add (.t 74) (.t 76))⟩,
       ⟨(some 8), none, .f (.mv (.t 77))⟩])))
     .skip))
    (.seq (.seq (.reg [
      ⟨(some 78), none, .f (.mv (.t 0))⟩,
      ⟨(some 79), none, .f (.mv (.t 8))⟩,
      ⟨(some 80), none, .f (.bin .add (.t 79) (.c (.int .i64 1)))⟩,
      ⟨(some 81), none, .f (.idxS (.t 78) (.t 80))⟩,
      ⟨(some 82), none, .f (.mv (.t 7))⟩,
      ⟨(some 83), none, .f (.bin .eql (.t 81) (.t 82))⟩,
      ⟨(some 84), none, .f (.mv (.t 83))⟩,
      ⟨(some 85), (some (84, true)), .f (.mv (.t 0))⟩,
      ⟨(some 86), (some (84, true)), .f (.mv (.t 8))⟩,
      ⟨(some 87), (some (84, true)), .f (.mv (.t 8))⟩,
      ⟨(some 88), (some (84, true)), .f (.mv (.t 5))⟩,
      ⟨(some 89), (some (84, true)), .f (.bin .add (.t 87) (.t 88))⟩,
      ⟨(some 90), (some (84, true)), .f (.slcS (.t 85) (some (.t 86)) (some (.t 89)))⟩,
      ⟨(some 91), (some (84, true)), .f (.mv (.t 1))⟩,
      ⟨(some 92), (some (84, true)), .f (.bin .eql (.t 90) (.t 91))⟩,
      ⟨(some 93), none, .f (.pick (.t 84) (.t 92) (.c (.bool false)))⟩])
    (.cond (.t 93)
     (.seq (.reg [
       ⟨(some 94), none, .f (.mv (.t 8))⟩,
       ⟨(some 4), none, .f (.mv (.t 94))⟩])
     .ret)
     .skip))
    (.seq (.reg [
      ⟨(some 95), none, .f (.mv (.t 8))⟩,
      ⟨(some 96), none, .f (.bin .add (.t 95) (.c (.int .i64 1)))⟩,
      ⟨(some 8), none, .f (.mv (.t 96))⟩])
    (.seq (.reg [
      ⟨(some 97), none, .f (.mv (.t 10))⟩,
      ⟨(some 98), none, .f (.bin .add (.t 97) (.c (.int .i64 1)))⟩,
      ⟨(some 10), none, .f (.mv (.t 98))⟩])
    (.seq (.reg [
      ⟨(some 99), none, .f (.mv (.t 5))⟩,
      ⟨(some 100), none, .x (.ux .bad [])⟩,
      ⟨(some 101), none, .f (.bin .leq (.t 99) (.t 100))⟩,
      ⟨(some 102), none, .f (.mv (.t 101))⟩,
      ⟨(some 103), (some (102, true)), .f (.mv (.t 10))⟩,
      ⟨(some 104), (some (102, true)), .f (.mv (.t 8))⟩,
      ⟨(some 105), (some (102, true)), .x (.call 158 [(.t 104)])⟩,
      ⟨(some 106), (some (102, true)), .f (.bin .gtr (.t 103) (.t 105))⟩,
      ⟨(some 107), none, .f (.pick (.t 102) (.t 106) (.c (.bool false)))⟩])
    (.cond (.t 107)
     (.seq (.reg [
       ⟨(some 108), none, .f (.mv (.t 0))⟩,
       ⟨(some 109), none, .f (.mv (.t 8))⟩,
       ⟨(some 110), none, .f (.slcS (.t 108) (some (.t 109)) none)⟩,
       ⟨(some 111), none, .f (.mv (.t 1))⟩,
       ⟨(some 112), none, .x (.call 157 [(.t 110), (.t 111)])⟩,
       ⟨(some 12), none, .f (.mv (.t 112))⟩])
     (.seq (.seq (.reg [
       ⟨(some 113), none, .f (.mv (.t 12))⟩,
       ⟨(some 114), none, .f (.bin .geq (.t 113) (.c (.int .i64 0)))⟩])
     (.cond (.t 114)
      (.seq (.reg [
        ⟨(some 115), none, .f (.mv (.t 12))⟩,
        ⟨(some 116), none, .f (.mv (.t 8))⟩,
        ⟨(some 117), none, .f (.bin .add (.t 115) (.t 116))⟩,
        ⟨(some 4), none, .f (.mv (.t 117))⟩])
      .ret)
      .skip))
     (.seq (.reg [
       ⟨(some 4), none, .f (.mv (.c (.int .i64 (-1))))⟩])
     .ret)))
     (.seq (.reg [
       ⟨(some 118), none, .f (.mv (.t 5))⟩,
       ⟨(some 119), none, .x (.ux .bad [])⟩,
       ⟨(some 120), none, .f (.bin .gtr (.t 118) (.t 119))⟩,
       ⟨(some 121), none, .f (.mv (.t 120))⟩,
       ⟨(some 122), (some (121, true)), .f (.mv (.t 10))⟩,
       ⟨(some 123), (some (121, true)), .f (.mv (.t 8))⟩,
       ⟨(some 124), (some (121, true)), .f (.bin .shr (.t 123) (.c (.int .u64 4)))⟩,
       ⟨(some 125), (some (121, true)), .f (.bin .add (.c (.int .i64 4)) (.t 124))⟩,
       ⟨(some 126), (some (121, true)), .f (.bin .geq (.t 122) (.t 125))⟩,
       ⟨(some 127), none, .f (.pick (.t 121) (.t 126) (.c (.bool false)))⟩,
       ⟨(some 128), none, .f (.mv (.t 127))⟩,
       ⟨(some 129), (some (128, true)), .f (.mv (.t 8))⟩,
       ⟨(some 130), (some (128, true)), .f (.mv (.t 9))⟩,
       ⟨(some 131), (some (128, true)), .f (.bin .lss (.t 129) (.t 130))⟩,
       ⟨(some 132), none, .f (.pick (.t 128) (.t 131) (.c (.bool false)))⟩])
     (.cond (.t 132)
      (.seq (.reg [
        ⟨(some 133), none, .f (.mv (.t 0))⟩,
        ⟨(some 134), none, .f (.mv (.t 8))⟩,
        ⟨(some 135), none, .f (.slcS (.t 133) (some (.t 134)) none)⟩,
        ⟨(some 136), none, .f (.mv (.t 1))⟩,
        ⟨(some 137), none, .x (.call 159 [(.t 135), (.t 136)])⟩,
        ⟨(some 13), none, .f (.mv (.t 137))⟩])
      (.seq (.seq (.reg [
        ⟨(some 138), none, .f (.mv (.t 13))⟩,
        ⟨(some 139), none, .f (.bin .lss (.t 138) (.c (.int .i64 0)))⟩])
      (.cond (.t 139)
       (.seq (.reg [
         ⟨(some 4), none, .f (.mv (.c (.int .i64 (-1))))⟩])
       .ret)
       .skip))
      (.seq (.reg [
        ⟨(some 140), none, .f (.mv (.t 8))⟩,
        ⟨(some 141), none, .f (.mv (.t 13))⟩,
        ⟨(some 142), none, .f (.bin .add (.t 140) (.t 141))⟩,
        ⟨(some 4), none, .f (.mv (.t 142))⟩])
      .ret)))
      .skip))))))))))))
 (.seq (.reg [
   ⟨(some 4), none, .f (.mv (.c (.int .i64 (-1))))⟩])
 .ret))))))))))
theorem ok146 : fnComp Tryd.prog 146 = some (143, c146, [(.mv (.t 4))]) := by kernel_rfl

/-- internal/stringslite.IndexByte -/
def c155 : CC :=
 (.seq (.reg [
   ⟨(some 4), none, .f (.mv (.c (.int .i64 0)))⟩])
 (.seq (.reg [
   ⟨(some 5), none, .f (.mv (.t 0))⟩,
   ⟨(some 6), none, .f (.mv (.t 1))⟩,
   ⟨(some 7), none, .x (.call 172 [(.t 5), (.t 6)])⟩,
   ⟨(some 4), none, .f (.mv (.t 7))⟩])
 .ret))
theorem ok155 : fnComp Tryd.prog 155 = some (8, c155, [(.mv (.t 4))]) := by kernel_rfl

end Go.Proofs.YtcmcfmgabafljaaDoor
