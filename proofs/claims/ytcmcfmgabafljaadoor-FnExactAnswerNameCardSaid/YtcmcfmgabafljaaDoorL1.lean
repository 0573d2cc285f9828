import Derived.Test.YtcmcfmgabafljaaDoorK2
import Derived.Test.YtcmcfmgabafljaaDoorProg
import Derived.KernelRfl
set_option linter.unusedSimpArgs false
set_option linter.unusedVariables false
namespace Go.Proofs.YtcmcfmgabafljaaDoor
open Go Go.IW
/-- loop.example/g00003/laws.FnExactNameOK -/
def c3 : CC :=
 (.seq (.reg [
   ⟨(some 2), none, .f (.mv (.c (.bool false)))⟩])
 (.seq (.seq (.reg [
   ⟨(some 5), none, .f (.mv (.t 0))⟩,
   ⟨(some 6), none, .f (.lenS (.t 5))⟩,
   ⟨(some 7), none, .f (.bin .gtr (.t 6) (.c (.int .i64 1048576)))⟩])
 (.cond (.t 7)
  (.seq (.reg [
    ⟨(some 2), none, .f (.mv (.c (.bool true)))⟩])
  .ret)
  .skip))
 (.seq (.reg [
   ⟨(some 8), none, .f (.mv (.t 0))⟩,
   ⟨(some 9), none, .x (.call 12 [(.t 8)])⟩,
   ⟨(some 3), none, .f (.mv (.t 9))⟩])
 (.seq (.reg [
   ⟨(some 10), none, .f (.mv (.t 0))⟩,
   ⟨(some 11), none, .x (.call 13 [(.t 10)])⟩,
   ⟨(some 4), none, .f (.mv (.t 11))⟩])
 (.seq (.seq (.reg [
   ⟨(some 12), none, .f (.mv (.t 4))⟩,
   ⟨(some 13), none, .f (.mv (.t 3))⟩,
   ⟨(some 14), none, .f (.binB true (.t 12) (.t 13))⟩])
 (.cond (.t 14)
  (.seq (.reg [
    ⟨(some 2), none, .f (.mv (.c (.bool false)))⟩])
  .ret)
  .skip))
 (.seq (.reg [
   ⟨(some 2), none, .f (.mv (.c (.bool true)))⟩])
 .ret))))))
theorem ok3 : fnComp Tryd.prog 3 = some (15, c3, [(.mv (.t 2))]) := by kernel_rfl

/-- loop.example/g00003/spec.NameOK -/
def c12 : CC :=
 (.seq (.reg [
   ⟨(some 2), none, .f (.mv (.c (.bool false)))⟩])
 (.seq (.seq (.reg [
   ⟨(some 5), none, .f (.mv (.t 0))⟩,
   ⟨(some 6), none, .f (.lenS (.t 5))⟩,
   ⟨(some 7), none, .f (.bin .gtr (.t 6) (.c (.int .i64 63)))⟩])
 (.cond (.t 7)
  (.seq (.reg [
    ⟨(some 2), none, .f (.mv (.c (.bool false)))⟩])
  .ret)
  .skip))
 (.seq (.reg [
   ⟨(some 8), none, .f (.mv (.t 0))⟩,
   ⟨(some 9), none, .x (.call 57 [(.t 8), (.c (.int .u8 46))])⟩,
   ⟨(some 3), none, .f (.mv (.t 9))⟩])
 (.seq (.seq (.reg [
   ⟨(some 4), none, .f (.mv (.c (.int .i64 0)))⟩])
 (.block 0 (.loop (.seq (.seq (.reg [
     ⟨(some 10), none, .f (.mv (.t 4))⟩,
     ⟨(some 11), none, .f (.mv (.t 3))⟩,
     ⟨(some 12), none, .f (.len (.t 11))⟩,
     ⟨(some 13), none, .f (.bin .lss (.t 10) (.t 12))⟩])
   (.cond (.t 13)
    .skip
    (.exit 0)))
   (.seq (.block 1 (.seq (.reg [
      ⟨(some 16), none, .f (.mv (.t 3))⟩,
      ⟨(some 17), none, .f (.mv (.t 4))⟩,
      ⟨(some 18), none, .f (.iadr 1 (.t 16) (.t 17))⟩,
      ⟨(some 19), none, .f (.ld (.t 18))⟩,
      ⟨(some 20), none, .x (.call 58 [(.t 19)])⟩,
      ⟨(some 21), none, .f (.un .not (.t 20))⟩])
    (.cond (.t 21)
     (.seq (.reg [
       ⟨(some 2), none, .f (.mv (.c (.bool false)))⟩])
     .ret)
     .skip)))
   (.reg [
     ⟨(some 14), none, .f (.mv (.t 4))⟩,
     ⟨(some 15), none, .f (.bin .add (.t 14) (.c (.int .i64 1)))⟩,
     ⟨(some 4), none, .f (.mv (.t 15))⟩]))))))
 (.seq (.reg [
   ⟨(some 2), none, .f (.mv (.c (.bool true)))⟩])
 .ret)))))
theorem ok12 : fnComp Tryd.prog 12 = some (22, c12, [(.mv (.t 2))]) := by kernel_rfl

/-- loop.example/g00003/impl.NameOK -/
def c13 : CC :=
 (.seq (.reg [
   ⟨(some 2), none, .f (.mv (.c (.bool false)))⟩])
 (.seq (.seq (.reg [
   ⟨(some 7), none, .f (.mv (.t 0))⟩,
   ⟨(some 8), none, .f (.lenS (.t 7))⟩,
   ⟨(some 9), none, .f (.bin .lss (.t 8) (.c (.int .i64 1)))⟩,
   ⟨(some 10), none, .f (.mv (.t 9))⟩,
   ⟨(some 11), (some (10, false)), .f (.mv (.t 0))⟩,
   ⟨(some 12), (some (10, false)), .f (.lenS (.t 11))⟩,
   ⟨(some 13), (some (10, false)), .f (.bin .gtr (.t 12) (.c (.int .i64 63)))⟩,
   ⟨(some 14), none, .f (.pick (.t 10) (.c (.bool true)) (.t 13))⟩])
 (.cond (.t 14)
  (.seq (.reg [
    ⟨(some 2), none, .f (.mv (.c (.bool false)))⟩])
  .ret)
  .skip))
 (.seq (.seq (.reg [
   ⟨(some 15), none, .f (.mv (.t 0))⟩,
   ⟨(some 16), none, .x (.call 59 [(.t 15), (.c (.str [46]))])⟩,
   ⟨(some 17), none, .f (.len (.t 16))⟩,
   ⟨(some 18), none, .f (.mv (.c (.int .i64 0)))⟩])
 (.block 0 (.loop (.seq (.reg [
     ⟨(some 19), none, .f (.bin .lss (.t 18) (.t 17))⟩])
   (.seq (.cond (.t 19)
    .skip
    (.exit 0))
   (.seq (.block 1 (.seq (.reg [
      ⟨(some 20), none, .f (.iadr 1 (.t 16) (.t 18))⟩,
      ⟨(some 21), none, .f (.ld (.t 20))⟩,
      ⟨(some 4), none, .f (.mv (.t 21))⟩])
    (.seq (.seq (.reg [
      ⟨(some 22), none, .f (.mv (.t 4))⟩,
      ⟨(some 23), none, .f (.lenS (.t 22))⟩,
      ⟨(some 24), none, .f (.bin .lss (.t 23) (.c (.int .i64 1)))⟩,
      ⟨(some 25), none, .f (.mv (.t 24))⟩,
      ⟨(some 26), (some (25, false)), .f (.mv (.t 4))⟩,
      ⟨(some 27), (some (25, false)), .f (.lenS (.t 26))⟩,
      ⟨(some 28), (some (25, false)), .f (.bin .gtr (.t 27) (.c (.int .i64 20)))⟩,
      ⟨(some 29), none, .f (.pick (.t 25) (.c (.bool true)) (.t 28))⟩,
      ⟨(some 30), none, .f (.mv (.t 29))⟩,
      ⟨(some 31), (some (30, false)), .f (.mv (.t 4))⟩,
      ⟨(some 32), (some (30, false)), .f (.idxS (.t 31) (.c (.int .i64 0)))⟩,
      ⟨(some 33), (some (30, false)), .f (.bin .eql (.t 32) (.c (.int .u8 45)))⟩,
      ⟨(some 34), none, .f (.pick (.t 30) (.c (.bool true)) (.t 33))⟩,
      ⟨(some 35), none, .f (.mv (.t 34))⟩,
      ⟨(some 36), (some (35, false)), .f (.mv (.t 4))⟩,
      ⟨(some 37), (some (35, false)), .f (.mv (.t 4))⟩,
      ⟨(some 38), (some (35, false)), .f (.lenS (.t 37))⟩,
      ⟨(some 39), (some (35, false)), .f (.bin .sub (.t 38) (.c (.int .i64 1)))⟩,
      ⟨(some 40), (some (35, false)), .f (.idxS (.t 36) (.t 39))⟩,
      ⟨(some 41), (some (35, false)), .f (.bin .eql (.t 40) (.c (.int .u8 45)))⟩,
      ⟨(some 42), none, .f (.pick (.t 35) (.c (.bool true)) (.t 41))⟩])
    (.cond (.t 42)
     (.seq (.reg [
       ⟨(some 2), none, .f (.mv (.c (.bool false)))⟩])
     .ret)
     .skip))
    (.seq (.reg [
      ⟨(some 43), none, .f (.mv (.t 4))⟩,
      ⟨(some 44), none, .x (.s2b 5 (.t 43))⟩,
      ⟨(some 45), none, .f (.len (.t 44))⟩,
      ⟨(some 46), none, .f (.mv (.c (.int .i64 0)))⟩])
    (.block 2 (.loop (.seq (.reg [
        ⟨(some 47), none, .f (.bin .lss (.t 46) (.t 45))⟩])
      (.seq (.cond (.t 47)
       .skip
       (.exit 2))
      (.seq (.block 3 (.seq (.reg [
         ⟨(some 48), none, .f (.iadr 1 (.t 44) (.t 46))⟩,
         ⟨(some 49), none, .f (.ld (.t 48))⟩,
         ⟨(some 6), none, .f (.mv (.t 49))⟩])
       (.seq (.reg [
         ⟨(some 50), none, .f (.mv (.t 6))⟩,
         ⟨(some 51), none, .f (.bin .geq (.t 50) (.c (.int .u8 97)))⟩,
         ⟨(some 52), none, .f (.mv (.t 51))⟩,
         ⟨(some 53), (some (52, true)), .f (.mv (.t 6))⟩,
         ⟨(some 54), (some (52, true)), .f (.bin .leq (.t 53) (.c (.int .u8 122)))⟩,
         ⟨(some 55), none, .f (.pick (.t 52) (.t 54) (.c (.bool false)))⟩,
         ⟨(some 56), none, .f (.mv (.t 55))⟩,
         ⟨(some 57), (some (56, false)), .f (.mv (.t 6))⟩,
         ⟨(some 58), (some (56, false)), .f (.bin .geq (.t 57) (.c (.int .u8 48)))⟩,
         ⟨(some 59), (some (56, false)), .f (.mv (.t 58))⟩,
         ⟨(some 60), (some (59, true)), .f (.mv (.t 6))⟩,
         ⟨(some 61), (some (59, true)), .f (.bin .leq (.t 60) (.c (.int .u8 57)))⟩,
         ⟨(some 62), (some (56, false)), .f (.pick (.t 59) (.t 61) (.c (.bool false)))⟩,
         ⟨(some 63), none, .f (.pick (.t 56) (.c (.bool true)) (.t 62))⟩,
         ⟨(some 64), none, .f (.mv (.t 63))⟩,
         ⟨(some 65), (some (64, false)), .f (.mv (.t 6))⟩,
         ⟨(some 66), (some (64, false)), .f (.bin .eql (.t 65) (.c (.int .u8 45)))⟩,
         ⟨(some 67), none, .f (.pick (.t 64) (.c (.bool true)) (.t 66))⟩,
         ⟨(some 68), none, .f (.un .not (.t 67))⟩])
       (.cond (.t 68)
        (.seq (.reg [
          ⟨(some 2), none, .f (.mv (.c (.bool false)))⟩])
        .ret)
        .skip))))
      (.reg [
        ⟨(some 69), none, .f (.bin .add (.t 46) (.c (.int .i64 1)))⟩,
        ⟨(some 46), none, .f (.mv (.t 69))⟩]))))))))))
   (.reg [
     ⟨(some 70), none, .f (.bin .add (.t 18) (.c (.int .i64 1)))⟩,
     ⟨(some 18), none, .f (.mv (.t 70))⟩])))))))
 (.seq (.reg [
   ⟨(some 2), none, .f (.mv (.c (.bool true)))⟩])
 .ret))))
theorem ok13 : fnComp Tryd.prog 13 = some (71, c13, [(.mv (.t 2))]) := by kernel_rfl

/-- loop.example/g00003/spec.l02Cut -/
def c57 : CC :=
 (.seq (.reg [
   ⟨(some 4), none, .f (.mv (.c .nilslice))⟩])
 (.seq (.reg [
   ⟨(some 8), none, .x (.bslice 9 1 [(.str [])] 0 [])⟩,
   ⟨(some 5), none, .f (.mv (.t 8))⟩])
 (.seq (.reg [
   ⟨(some 6), none, .f (.mv (.c (.int .i64 0)))⟩])
 (.seq (.seq (.reg [
   ⟨(some 7), none, .f (.mv (.c (.int .i64 0)))⟩])
 (.block 0 (.loop (.seq (.seq (.reg [
     ⟨(some 9), none, .f (.mv (.t 7))⟩,
     ⟨(some 10), none, .f (.mv (.t 0))⟩,
     ⟨(some 11), none, .f (.lenS (.t 10))⟩,
     ⟨(some 12), none, .f (.bin .lss (.t 9) (.t 11))⟩])
   (.cond (.t 12)
    .skip
    (.exit 0)))
   (.seq (.block 1 (.seq (.reg [
      ⟨(some 15), none, .f (.mv (.t 0))⟩,
      ⟨(some 16), none, .f (.mv (.t 7))⟩,
      ⟨(some 17), none, .f (.idxS (.t 15) (.t 16))⟩,
      ⟨(some 18), none, .f (.mv (.t 1))⟩,
      ⟨(some 19), none, .f (.bin .eql (.t 17) (.t 18))⟩])
    (.cond (.t 19)
     (.seq (.reg [
       ⟨(some 20), none, .f (.mv (.t 5))⟩,
       ⟨(some 21), none, .f (.mv (.t 0))⟩,
       ⟨(some 22), none, .f (.mv (.t 6))⟩,
       ⟨(some 23), none, .f (.mv (.t 7))⟩,
       ⟨(some 24), none, .f (.slcS (.t 21) (some (.t 22)) (some (.t 23)))⟩,
       ⟨(some 25), none, .x (.bslice 9 1 [(.str [])] 1 [(0, (.t 24))])⟩,
       ⟨(some 26), none, .x (.app 9 1 16 (.t 20) (.t 25))⟩,
       ⟨(some 5), none, .f (.mv (.t 26))⟩])
     (.reg [
       ⟨(some 27), none, .f (.mv (.t 7))⟩,
       ⟨(some 28), none, .f (.bin .add (.t 27) (.c (.int .i64 1)))⟩,
       ⟨(some 6), none, .f (.mv (.t 28))⟩]))
     .skip)))
   (.reg [
     ⟨(some 13), none, .f (.mv (.t 7))⟩,
     ⟨(some 14), none, .f (.bin .add (.t 13) (.c (.int .i64 1)))⟩,
     ⟨(some 7), none, .f (.mv (.t 14))⟩]))))))
 (.seq (.reg [
   ⟨(some 29), none, .f (.mv (.t 5))⟩,
   ⟨(some 30), none, .f (.mv (.t 0))⟩,
   ⟨(some 31), none, .f (.mv (.t 6))⟩,
   ⟨(some 32), none, .f (.slcS (.t 30) (some (.t 31)) none)⟩,
   ⟨(some 33), none, .x (.bslice 9 1 [(.str [])] 1 [(0, (.t 32))])⟩,
   ⟨(some 34), none, .x (.app 9 1 16 (.t 29) (.t 33))⟩,
   ⟨(some 4), none, .f (.mv (.t 34))⟩])
 .ret)))))
theorem ok57 : fnComp Tryd.prog 57 = some (35, c57, [(.mv (.t 4))]) := by kernel_rfl

/-- loop.example/g00003/spec.l19Label -/
def c58 : CC :=
 (.seq (.reg [
   ⟨(some 2), none, .f (.mv (.c (.bool false)))⟩])
 (.seq (.seq (.reg [
   ⟨(some 4), none, .f (.mv (.t 0))⟩,
   ⟨(some 5), none, .f (.lenS (.t 4))⟩,
   ⟨(some 6), none, .f (.bin .lss (.t 5) (.c (.int .i64 1)))⟩,
   ⟨(some 7), none, .f (.mv (.t 6))⟩,
   ⟨(some 8), (some (7, false)), .f (.mv (.t 0))⟩,
   ⟨(some 9), (some (7, false)), .f (.lenS (.t 8))⟩,
   ⟨(some 10), (some (7, false)), .f (.bin .gtr (.t 9) (.c (.int .i64 20)))⟩,
   ⟨(some 11), none, .f (.pick (.t 7) (.c (.bool true)) (.t 10))⟩,
   ⟨(some 12), none, .f (.mv (.t 11))⟩,
   ⟨(some 13), (some (12, false)), .f (.mv (.t 0))⟩,
   ⟨(some 14), (some (12, false)), .f (.idxS (.t 13) (.c (.int .i64 0)))⟩,
   ⟨(some 15), (some (12, false)), .f (.bin .eql (.t 14) (.c (.int .u8 45)))⟩,
   ⟨(some 16), none, .f (.pick (.t 12) (.c (.bool true)) (.t 15))⟩,
   ⟨(some 17), none, .f (.mv (.t 16))⟩,
   ⟨(some 18), (some (17, false)), .f (.mv (.t 0))⟩,
   ⟨(some 19), (some (17, false)), .f (.mv (.t 0))⟩,
   ⟨(some 20), (some (17, false)), .f (.lenS (.t 19))⟩,
   ⟨(some 21), (some (17, false)), .f (.bin .sub (.t 20) (.c (.int .i64 1)))⟩,
   ⟨(some 22), (some (17, false)), .f (.idxS (.t 18) (.t 21))⟩,
   ⟨(some 23), (some (17, false)), .f (.bin .eql (.t 22) (.c (.int .u8 45)))⟩,
   ⟨(some 24), none, .f (.pick (.t 17) (.c (.bool true)) (.t 23))⟩])
 (.cond (.t 24)
  (.seq (.reg [
    ⟨(some 2), none, .f (.mv (.c (.bool false)))⟩])
  .ret)
  .skip))
 (.seq (.seq (.reg [
   ⟨(some 3), none, .f (.mv (.c (.int .i64 0)))⟩])
 (.block 0 (.loop (.seq (.seq (.reg [
     ⟨(some 25), none, .f (.mv (.t 3))⟩,
     ⟨(some 26), none, .f (.mv (.t 0))⟩,
     ⟨(some 27), none, .f (.lenS (.t 26))⟩,
     ⟨(some 28), none, .f (.bin .lss (.t 25) (.t 27))⟩])
   (.cond (.t 28)
    .skip
    (.exit 0)))
   (.seq (.block 1 (.seq (.reg [
      ⟨(some 31), none, .f (.mv (.t 0))⟩,
      ⟨(some 32), none, .f (.mv (.t 3))⟩,
      ⟨(some 33), none, .f (.idxS (.t 31) (.t 32))⟩,
      ⟨(some 34), none, .f (.bin .lss (.t 33) (.c (.int .u8 97)))⟩,
      ⟨(some 35), none, .f (.mv (.t 34))⟩,
      ⟨(some 36), (some (35, false)), .f (.mv (.t 0))⟩,
      ⟨(some 37), (some (35, false)), .f (.mv (.t 3))⟩,
      ⟨(some 38), (some (35, false)), .f (.idxS (.t 36) (.t 37))⟩,
      ⟨(some 39), (some (35, false)), .f (.bin .gtr (.t 38) (.c (.int .u8 122)))⟩,
      ⟨(some 40), none, .f (.pick (.t 35) (.c (.bool true)) (.t 39))⟩,
      ⟨(some 41), none, .f (.mv (.t 40))⟩,
      ⟨(some 42), (some (41, true)), .f (.mv (.t 0))⟩,
      ⟨(some 43), (some (41, true)), .f (.mv (.t 3))⟩,
      ⟨(some 44), (some (41, true)), .f (.idxS (.t 42) (.t 43))⟩,
      ⟨(some 45), (some (41, true)), .f (.bin .lss (.t 44) (.c (.int .u8 48)))⟩,
      ⟨(some 46), (some (41, true)), .f (.mv (.t 45))⟩,
      ⟨(some 47), (some (46, false)), .f (.mv (.t 0))⟩,
      ⟨(some 48), (some (46, false)), .f (.mv (.t 3))⟩,
      ⟨(some 49), (some (46, false)), .f (.idxS (.t 47) (.t 48))⟩,
      ⟨(some 50), (some (46, false)), .f (.bin .gtr (.t 49) (.c (.int .u8 57)))⟩,
      ⟨(some 51), (some (41, true)), .f (.pick (.t 46) (.c (.bool true)) (.t 50))⟩,
      ⟨(some 52), none, .f (.pick (.t 41) (.t 51) (.c (.bool false)))⟩,
      ⟨(some 53), none, .f (.mv (.t 52))⟩,
      ⟨(some 54), (some (53, true)), .f (.mv (.t 0))⟩,
      ⟨(some 55), (some (53, true)), .f (.mv (.t 3))⟩,
      ⟨(some 56), (some (53, true)), .f (.idxS (.t 54) (.t 55))⟩,
      ⟨(some 57), (some (53, true)), .f (.bin .neq (.t 56) (.c (.int .u8 45)))⟩,
      ⟨(some 58), none, .f (.pick (.t 53) (.t 57) (.c (.bool false)))⟩])
    (.cond (.t 58)
     (.seq (.reg [
       ⟨(some 2), none, .f (.mv (.c (.bool false)))⟩])
     .ret)
     .skip)))
   (.reg [
     ⟨(some 29), none, .f (.mv (.t 3))⟩,
     ⟨(some 30), none, .f (.bin .add (.t 29) (.c (.int .i64 1)))⟩,
     ⟨(some 3), none, .f (.mv (.t 30))⟩]))))))
 (.seq (.reg [
   ⟨(some 2), none, .f (.mv (.c (.bool true)))⟩])
 .ret))))
theorem ok58 : fnComp Tryd.prog 58 = some (59, c58, [(.mv (.t 2))]) := by kernel_rfl

/-- strings.Split -/
def c59 : CC :=
 (.seq (.reg [
   ⟨(some 4), none, .f (.mv (.c .nilslice))⟩])
 (.seq (.reg [
   ⟨(some 5), none, .f (.mv (.t 0))⟩,
   ⟨(some 6), none, .f (.mv (.t 1))⟩,
   ⟨(some 7), none, .x (.call 106 [(.t 5), (.t 6), (.c (.int .i64 0)), (.c (.int .i64 (-1)))])⟩,
   ⟨(some 4), none, .f (.mv (.t 7))⟩])
 .ret))
theorem ok59 : fnComp Tryd.prog 59 = some (8, c59, [(.mv (.t 4))]) := by kernel_rfl

/-- strings.genSplit -/
def c106 : CC :=
 (.seq (.reg [
   ⟨(some 8), none, .f (.mv (.c .nilslice))⟩])
 (.seq (.seq (.reg [
   ⟨(some 12), none, .f (.mv (.t 3))⟩,
   ⟨(some 13), none, .f (.bin .eql (.t 12) (.c (.int .i64 0)))⟩])
 (.cond (.t 13)
  (.seq (.reg [
    ⟨(some 8), none, .f (.mv (.c .nilslice))⟩])
  .ret)
  .skip))
 (.seq (.seq (.reg [
   ⟨(some 14), none, .f (.mv (.t 1))⟩,
   ⟨(some 15), none, .f (.bin .eql (.t 14) (.c (.str [])))⟩])
 (.cond (.t 15)
  (.seq (.reg [
    ⟨(some 16), none, .f (.mv (.t 0))⟩,
    ⟨(some 17), none, .f (.mv (.t 3))⟩,
    ⟨(some 18), none, .x (.call 130 [(.t 16), (.t 17)])⟩,
    ⟨(some 8), none, .f (.mv (.t 18))⟩])
  .ret)
  .skip))
 (.seq (.seq (.reg [
   ⟨(some 19), none, .f (.mv (.t 3))⟩,
   ⟨(some 20), none, .f (.bin .lss (.t 19) (.c (.int .i64 0)))⟩])
 (.cond (.t 20)
  (.reg [
    ⟨(some 21), none, .f (.mv (.t 0))⟩,
    ⟨(some 22), none, .f (.mv (.t 1))⟩,
    ⟨(some 23), none, .x (.call 131 [(.t 21), (.t 22)])⟩,
    ⟨(some 24), none, .f (.bin .add (.t 23) (.c (.int .i64 1)))⟩,
    ⟨(some 3), none, .f (.mv (.t 24))⟩])
  .skip))
 (.seq (.reg [
   ⟨(some 25), none, .f (.mv (.t 3))⟩,
   ⟨(some 26), none, .f (.mv (.t 0))⟩,
   ⟨(some 27), none, .f (.lenS (.t 26))⟩,
   ⟨(some 28), none, .f (.bin .add (.t 27) (.c (.int .i64 1)))⟩,
   ⟨(some 29), none, .f (.mm false (.t 25) (.t 28))⟩,
   ⟨(some 3), none, .f (.mv (.t 29))⟩])
 (.seq (.reg [
   ⟨(some 30), none, .f (.mv (.t 3))⟩,
   ⟨(some 31), none, .x (.mks 9 1 16 [(.str [])] (.t 30) (.t 30))⟩,
   ⟨(some 9), none, .f (.mv (.t 31))⟩])
 (.seq (.reg [
   ⟨(some 32), none, .f (.mv (.t 3))⟩,
   ⟨(some 33), none, .f (.bin .sub (.t 32) (.c (.int .i64 1)))⟩,
   ⟨(some 3), none, .f (.mv (.t 33))⟩])
 (.seq (.reg [
   ⟨(some 10), none, .f (.mv (.c (.int .i64 0)))⟩])
 (.seq (.block 0 (.loop (.seq (.seq (.reg [
     ⟨(some 34), none, .f (.mv (.t 10))⟩,
     ⟨(some 35), none, .f (.mv (.t 3))⟩,
     ⟨(some 36), none, .f (.bin .lss (.t 34) (.t 35))⟩])
   (.cond (.t 36)
    .skip
    (.exit 0)))
   (.block 1 (.seq (.reg [
      ⟨(some 37), none, .f (.mv (.t 0))⟩,
      ⟨(some 38), none, .f (.mv (.t 1))⟩,
      ⟨(some 39), none, .x (.call 132 [(.t 37), (.t 38)])⟩,
      ⟨(some 11), none, .f (.mv (.t 39))⟩])
    (.seq (.seq (.reg [
      ⟨(some 40), none, .f (.mv (.t 11))⟩,
      ⟨(some 41), none, .f (.bin .lss (.t 40) (.c (.int .i64 0)))⟩])
    (.cond (.t 41)
     (.exit 0)
     .skip))
    (.seq (.reg [
      ⟨(some 42), none, .f (.mv (.t 9))⟩,
      ⟨(some 43), none, .f (.mv (.t 10))⟩,
      ⟨(some 44), none, .f (.mv (.t 0))⟩,
      ⟨(some 45), none, .f (.mv (.t 11))⟩,
      ⟨(some 46), none, .f (.mv (.t 2))⟩,
      ⟨(some 47), none, .f (.bin .add (.t 45) (.t 46))⟩,
      ⟨(some 48), none, .f (.slcS (.t 44) none (some (.t 47)))⟩,
      ⟨(some 49), none, .f (.iadr 1 (.t 42) (.t 43))⟩,
      ⟨none, none, .x (.st 1 (.t 49) (.t 48))⟩])
    (.seq (.reg [
      ⟨(some 50), none, .f (.mv (.t 0))⟩,
      ⟨(some 51), none, .f (.mv (.t 11))⟩,
      ⟨(some 52), none, .f (.mv (.t 1))⟩,
      ⟨(some 53), none, .f (.lenS (.t 52))⟩,
      ⟨(some 54), none, .f (.bin .add (.t 51) (.t 53))⟩,
      ⟨(some 55), none, .f (.slcS (.t 50) (some (.t 54)) none)⟩,
      ⟨(some 0), none, .f (.mv (.t 55))⟩])
    (.reg [
      ⟨(some 56), none, .f (.mv (.t 10))⟩,
      ⟨(some 57), none, .f (.bin .add (.t 56) (.c (.int .i64 1)))⟩,
      ⟨(some 10), none, .f (.mv (.t 57))⟩])))))))))
 (.seq (.reg [
   ⟨(some 58), none, .f (.mv (.t 9))⟩,
   ⟨(some 59), none, .f (.mv (.t 10))⟩,
   ⟨(some 60), none, .f (.mv (.t 0))⟩,
   ⟨(some 61), none, .f (.iadr 1 (.t 58) (.t 59))⟩,
   ⟨none, none, .x (.st 1 (.t 61) (.t 60))⟩])
 (.seq (.reg [
   ⟨(some 62), none, .f (.mv (.t 9))⟩,
   ⟨(some 63), none, .f (.mv (.t 10))⟩,
   ⟨(some 64), none, .f (.bin .add (.t 63) (.c (.int .i64 1)))⟩,
   ⟨(some 65), none, .f (.slc 1 (.t 62) none (some (.t 64)) none)⟩,
   ⟨(some 8), none, .f (.mv (.t 65))⟩])
 .ret)))))))))))
theorem ok106 : fnComp Tryd.prog 106 = some (66, c106, [(.mv (.t 8))]) := by kernel_rfl

/-- strings.Count -/
def c131 : CC :=
 (.seq (.reg [
   ⟨(some 4), none, .f (.mv (.c (.int .i64 0)))⟩])
 (.seq (.seq (.reg [
   ⟨(some 7), none, .f (.mv (.t 1))⟩,
   ⟨(some 8), none, .f (.lenS (.t 7))⟩,
   ⟨(some 9), none, .f (.bin .eql (.t 8) (.c (.int .i64 0)))⟩])
 (.cond (.t 9)
  (.seq (.reg [
    ⟨(some 10), none, .f (.mv (.t 0))⟩,
    ⟨(some 11), none, .x (.call 143 [(.t 10)])⟩,
    ⟨(some 12), none, .f (.bin .add (.t 11) (.c (.int .i64 1)))⟩,
    ⟨(some 4), none, .f (.mv (.t 12))⟩])
  .ret)
  .skip))
 (.seq (.seq (.reg [
   ⟨(some 13), none, .f (.mv (.t 1))⟩,
   ⟨(some 14), none, .f (.lenS (.t 13))⟩,
   ⟨(some 15), none, .f (.bin .eql (.t 14) (.c (.int .i64 1)))⟩])
 (.cond (.t 15)
  (.seq (.reg [
    ⟨(some 16), none, .f (.mv (.t 0))⟩,
    ⟨(some 17), none, .f (.mv (.t 1))⟩,
    ⟨(some 18), none, .f (.idxS (.t 17) (.c (.int .i64 0)))⟩,
    ⟨(some 19), none, .x (.call 145 [(.t 16), (.t 18)])⟩,
    ⟨(some 4), none, .f (.mv (.t 19))⟩])
  .ret)
  .skip))
 (.seq (.reg [
   ⟨(some 5), none, .f (.mv (.c (.int .i64 0)))⟩])
 (.block 0 (.loop (.block 1 (.seq (.reg [
      ⟨(some 20), none, .f (.mv (.t 0))⟩,
      ⟨(some 21), none, .f (.mv (.t 1))⟩,
      ⟨(some 22), none, .x (.call 132 [(.t 20), (.t 21)])⟩,
      ⟨(some 6), none, .f (.mv (.t 22))⟩])
    (.seq (.seq (.reg [
      ⟨(some 23), none, .f (.mv (.t 6))⟩,
      ⟨(some 24), none, .f (.bin .eql (.t 23) (.c (.int .i64 (-1))))⟩])
    (.cond (.t 24)
     (.seq (.reg [
       ⟨(some 25), none, .f (.mv (.t 5))⟩,
       ⟨(some 4), none, .f (.mv (.t 25))⟩])
     .ret)
     .skip))
    (.seq (.reg [
      ⟨(some 26), none, .f (.mv (.t 5))⟩,
      ⟨(some 27), none, .f (.bin .add (.t 26) (.c (.int .i64 1)))⟩,
      ⟨(some 5), none, .f (.mv (.t 27))⟩])
    (.reg [
      ⟨(some 28), none, .f (.mv (.t 0))⟩,
      ⟨(some 29), none, .f (.mv (.t 6))⟩,
      ⟨(some 30), none, .f (.mv (.t 1))⟩,
      ⟨(some 31), none, .f (.lenS (.t 30))⟩,
      ⟨(some 32), none, .f (.bin .add (.t 29) (.t 31))⟩,
      ⟨(some 33), none, .f (.slcS (.t 28) (some (.t 32)) none)⟩,
      ⟨(some 0), none, .f (.mv (.t 33))⟩])))))))))))
theorem ok131 : fnComp Tryd.prog 131 = some (34, c131, [(.mv (.t 4))]) := by kernel_rfl

/-- strings.Index -/
def c132 : CC :=
 (.seq (.reg [
   ⟨(some 4), none, .f (.mv (.c (.int .i64 0)))⟩])
 (.seq (.reg [
   ⟨(some 5), none, .f (.mv (.t 0))⟩,
   ⟨(some 6), none, .f (.mv (.t 1))⟩,
   ⟨(some 7), none, .x (.call 146 [(.t 5), (.t 6)])⟩,
   ⟨(some 4), none, .f (.mv (.t 7))⟩])
 .ret))
theorem ok132 : fnComp Tryd.prog 132 = some (8, c132, [(.mv (.t 4))]) := by kernel_rfl

/-- internal/stringslite.Index -/
def c146 : CC :=
 (.seq (.reg [
   ⟨(some 4), none, .f (.mv (.c (.int .i64 0)))⟩])
 (.seq (.reg [
   ⟨(some 14), none, .f (.mv (.t 1))⟩,
   ⟨(some 15), none, .f (.lenS (.t 14))⟩,
   ⟨(some 5), none, .f (.mv (.t 15))⟩])
 (.seq (.block 0 (.seq (.reg [
    ⟨(some 17), none, .f (.mv (.t 5))⟩,
    ⟨(some 18), none, .f (.bin .eql (.t 17) (.c (.int .i64 0)))⟩,
    ⟨(some 19), none, .f (.mv (.t 18))⟩,
    ⟨(some 20), (some (19, false)), .f (.mv (.t 1))⟩,
    ⟨(some 21), (some (19, false)), .f (.mv (.t 0))⟩,
    ⟨(some 22), (some (19, false)), .f (.bin .eql (.t 20) (.t 21))⟩,
    ⟨(some 23), none, .f (.pick (.t 19) (.c (.bool true)) (.t 22))⟩,
    ⟨(some 16), none, .f (.mv (.t 23))⟩])
  (.cond (.t 16)
   (.seq (.reg [
     ⟨(some 4), none, .f (.mv (.c (.int .i64 0)))⟩])
   .ret)
   (.seq (.reg [
     ⟨(some 25), none, .f (.mv (.t 5))⟩,
     ⟨(some 26), none, .f (.bin .eql (.t 25) (.c (.int .i64 1)))⟩,
     ⟨(some 24), none, .f (.mv (.t 26))⟩])
   (.cond (.t 24)
    (.seq (.reg [
      ⟨(some 27), none, .f (.mv (.t 0))⟩,
      ⟨(some 28), none, .f (.mv (.t 1))⟩,
      ⟨(some 29), none, .f (.idxS (.t 28) (.c (.int .i64 0)))⟩,
      ⟨(some 30), none, .x (.call 155 [(.t 27), (.t 29)])⟩,
      ⟨(some 4), none, .f (.mv (.t 30))⟩])
    .ret)
    (.seq (.reg [
      ⟨(some 32), none, .f (.mv (.t 5))⟩,
      ⟨(some 33), none, .f (.mv (.t 0))⟩,
      ⟨(some 34), none, .f (.lenS (.t 33))⟩,
      ⟨(some 35), none, .f (.bin .geq (.t 32) (.t 34))⟩,
      ⟨(some 31), none, .f (.mv (.t 35))⟩])
    (.cond (.t 31)
     (.seq (.reg [
       ⟨(some 4), none, .f (.mv (.c (.int .i64 (-1))))⟩])
     .ret)
     (.seq (.reg [
       ⟨(some 37), none, .f (.mv (.t 5))⟩,
       ⟨(some 38), none, .x (.ux .bad [])⟩,
       ⟨(some 39), none, .f (.bin .leq (.t 37) (.t 38))⟩,
       ⟨(some 40), none, .f (.mv (.t 39))⟩,
       ⟨(some 41), (some (40, true)), .f (.mv (.t 0))⟩,
       ⟨(some 42), (some (40, true)), .f (.lenS (.t 41))⟩,
       ⟨(some 43), (some (40, true)), .f (.bin .leq (.t 42) (.c (.int .i64 64)))⟩,
       ⟨(some 44), none, .f (.pick (.t 40) (.t 43) (.c (.bool false)))⟩,
       ⟨(some 36), none, .f (.mv (.t 44))⟩])
     (.cond (.t 36)
      (.seq (.reg [
        ⟨(some 45), none, .f (.mv (.t 0))⟩,
        ⟨(some 46), none, .f (.mv (.t 1))⟩,
        ⟨(some 47), none, .x (.call 157 [(.t 45), (.t 46)])⟩,
        ⟨(some 4), none, .f (.mv (.t 47))⟩])
      .ret)
      .skip)))))))))
 (.seq (.reg [
   ⟨(some 48), none, .f (.mv (.t 1))⟩,
   ⟨(some 49), none, .f (.idxS (.t 48) (.c (.int .i64 0)))⟩,
   ⟨(some 6), none, .f (.mv (.t 49))⟩])
 (.seq (.reg [
   ⟨(some 50), none, .f (.mv (.t 1))⟩,
   ⟨(some 51), none, .f (.idxS (.t 50) (.c (.int .i64 1)))⟩,
   ⟨(some 7), none, .f (.mv (.t 51))⟩])
 (.seq (.reg [
   ⟨(some 8), none, .f (.mv (.c (.int .i64 0)))⟩])
 (.seq (.reg [
   ⟨(some 52), none, .f (.mv (.t 0))⟩,
   ⟨(some 53), none, .f (.lenS (.t 52))⟩,
   ⟨(some 54), none, .f (.mv (.t 5))⟩,
   ⟨(some 55), none, .f (.bin .sub (.t 53) (.t 54))⟩,
   ⟨(some 56), none, .f (.bin .add (.t 55) (.c (.int .i64 1)))⟩,
   ⟨(some 9), none, .f (.mv (.t 56))⟩])
 (.seq (.reg [
   ⟨(some 10), none, .f (.mv (.c (.int .i64 0)))⟩])
 (.seq (.block 1 (.loop (.seq (.seq (.reg [
     ⟨(some 57), none, .f (.mv (.t 8))⟩,
     ⟨(some 58), none, .f (.mv (.t 9))⟩,
     ⟨(some 59), none, .f (.bin .lss (.t 57) (.t 58))⟩])
   (.cond (.t 59)
    .skip
    (.exit 1)))
   (.block 2 (.seq (.seq (.reg [
      ⟨(some 60), none, .f (.mv (.t 0))⟩,
      ⟨(some 61), none, .f (.mv (.t 8))⟩,
      ⟨(some 62), none, .f (.idxS (.t 60) (.t 61))⟩,
      ⟨(some 63), none, .f (.mv (.t 6))⟩,
      ⟨(some 64), none, .f (.bin .neq (.t 62) (.t 63))⟩])
    (.cond (.t 64)
     (.seq (.reg [
       ⟨(some 65), none, .f (.mv (.t 0))⟩,
       ⟨(some 66), none, .f (.mv (.t 8))⟩,
       ⟨(some 67), none, .f (.bin .add (.t 66) (.c (.int .i64 1)))⟩,
       ⟨(some 68), none, .f (.mv (.t 9))⟩,
       ⟨(some 69), none, .f (.slcS (.t 65) (some (.t 67)) (some (.t 68)))⟩,
       ⟨(some 70), none, .f (.mv (.t 6))⟩,
       ⟨(some 71), none, .x (.call 155 [(.t 69), (.t 70)])⟩,
       ⟨(some 11), none, .f (.mv (.t 71))⟩])
     (.seq (.seq (.reg [
       ⟨(some 72), none, .f (.mv (.t 11))⟩,
       ⟨(some 73), none, .f (.bin .lss (.t 72) (.c (.int .i64 0)))⟩])
     (.cond (.t 73)
      (.seq (.reg [
        ⟨(some 4), none, .f (.mv (.c (.int .i64 (-1))))⟩])
      .ret)
      .skip))
     (.reg [
       ⟨(some 74), none, .f (.mv (.t 8))⟩,
       ⟨(some 75), none, .f (.mv (.t 11))⟩,
       ⟨(some 76), none, .f (.bin .add (.t 75) (.c (.int .i64 1)))⟩,
       ⟨(some 77), none, .f (.bin .add (.t 74) (.t 76))⟩,
       ⟨(some 8), none, .f (.mv (.t 77))⟩])))
     .skip))
    (.seq (.seq (.reg [
      ⟨(some 78), none, .f (.mv (.t 0))⟩,
      ⟨(some 79), none, .f (.mv (.t 8))⟩,
      ⟨(some 80), none, .f (.bin .add (.t 79) (.c (.int .i64 1)))⟩,
      ⟨(some 81), none, .f (.idxS (.t 78) (.t 80))⟩,
      ⟨(some 82), none, .f (.mv (.t 7))⟩,
      ⟨(some 83), none, .f (.bin .eql (.t 81) (.t 82))⟩,
      ⟨(some 84), none, .f (.mv (.t 83))⟩,
      ⟨(some 85), (some (84, true)), .f (.mv (.t 0))⟩,
      ⟨(some 86), (some (84, true)), .f (.mv (.t 8))⟩,
      ⟨(some 87), (some (84, true)), .f (.mv (.t 8))⟩,
      ⟨(some 88), (some (84, true)), .f (.mv (.t 5))⟩,
      ⟨(some 89), (some (84, true)), .f (.bin .add (.t 87) (.t 88))⟩,
      ⟨(some 90), (some (84, true)), .f (.slcS (.t 85) (some (.t 86)) (some (.t 89)))⟩,
      ⟨(some 91), (some (84, true)), .f (.mv (.t 1))⟩,
      ⟨(some 92), (some (84, true)), .f (.bin .eql (.t 90) (.t 91))⟩,
      ⟨(some 93), none, .f (.pick (.t 84) (.t 92) (.c (.bool false)))⟩])
    (.cond (.t 93)
     (.seq (.reg [
       ⟨(some 94), none, .f (.mv (.t 8))⟩,
       ⟨(some 4), none, .f (.mv (.t 94))⟩])
     .ret)
     .skip))
    (.seq (.reg [
      ⟨(some 95), none, .f (.mv (.t 8))⟩,
      ⟨(some 96), none, .f (.bin .add (.t 95) (.c (.int .i64 1)))⟩,
      ⟨(some 8), none, .f (.mv (.t 96))⟩])
    (.seq (.reg [
      ⟨(some 97), none, .f (.mv (.t 10))⟩,
      ⟨(some 98), none, .f (.bin .add (.t 97) (.c (.int .i64 1)))⟩,
      ⟨(some 10), none, .f (.mv (.t 98))⟩])
    (.seq (.reg [
      ⟨(some 99), none, .f (.mv (.t 5))⟩,
      ⟨(some 100), none, .x (.ux .bad [])⟩,
      ⟨(some 101), none, .f (.bin .leq (.t 99) (.t 100))⟩,
      ⟨(some 102), none, .f (.mv (.t 101))⟩,
      ⟨(some 103), (some (102, true)), .f (.mv (.t 10))⟩,
      ⟨(some 104), (some (102, true)), .f (.mv (.t 8))⟩,
      ⟨(some 105), (some (102, true)), .x (.call 158 [(.t 104)])⟩,
      ⟨(some 106), (some (102, true)), .f (.bin .gtr (.t 103) (.t 105))⟩,
      ⟨(some 107), none, .f (.pick (.t 102) (.t 106) (.c (.bool false)))⟩])
    (.cond (.t 107)
     (.seq (.reg [
       ⟨(some 108), none, .f (.mv (.t 0))⟩,
       ⟨(some 109), none, .f (.mv (.t 8))⟩,
       ⟨(some 110), none, .f (.slcS (.t 108) (some (.t 109)) none)⟩,
       ⟨(some 111), none, .f (.mv (.t 1))⟩,
       ⟨(some 112), none, .x (.call 157 [(.t 110), (.t 111)])⟩,
       ⟨(some 12), none, .f (.mv (.t 112))⟩])
     (.seq (.seq (.reg [
       ⟨(some 113), none, .f (.mv (.t 12))⟩,
       ⟨(some 114), none, .f (.bin .geq (.t 113) (.c (.int .i64 0)))⟩])
     (.cond (.t 114)
      (.seq (.reg [
        ⟨(some 115), none, .f (.mv (.t 12))⟩,
        ⟨(some 116), none, .f (.mv (.t 8))⟩,
        ⟨(some 117), none, .f (.bin .add (.t 115) (.t 116))⟩,
        ⟨(some 4), none, .f (.mv (.t 117))⟩])
      .ret)
      .skip))
     (.seq (.reg [
       ⟨(some 4), none, .f (.mv (.c (.int .i64 (-1))))⟩])
     .ret)))
     (.seq (.reg [
       ⟨(some 118), none, .f (.mv (.t 5))⟩,
       ⟨(some 119), none, .x (.ux .bad [])⟩,
       ⟨(some 120), none, .f (.bin .gtr (.t 118) (.t 119))⟩,
       ⟨(some 121), none, .f (.mv (.t 120))⟩,
       ⟨(some 122), (some (121, true)), .f (.mv (.t 10))⟩,
       ⟨(some 123), (some (121, true)), .f (.mv (.t 8))⟩,
       ⟨(some 124), (some (121, true)), .f (.bin .shr (.t 123) (.c (.int .u64 4)))⟩,
       ⟨(some 125), (some (121, true)), .f (.bin .add (.c (.int .i64 4)) (.t 124))⟩,
       ⟨(some 126), (some (121, true)), .f (.bin .geq (.t 122) (.t 125))⟩,
       ⟨(some 127), none, .f (.pick (.t 121) (.t 126) (.c (.bool false)))⟩,
       ⟨(some 128), none, .f (.mv (.t 127))⟩,
       ⟨(some 129), (some (128, true)), .f (.mv (.t 8))⟩,
       ⟨(some 130), (some (128, true)), .f (.mv (.t 9))⟩,
       ⟨(some 131), (some (128, true)), .f (.bin .lss (.t 129) (.t 130))⟩,
       ⟨(some 132), none, .f (.pick (.t 128) (.t 131) (.c (.bool false)))⟩])
     (.cond (.t 132)
      (.seq (.reg [
        ⟨(some 133), none, .f (.mv (.t 0))⟩,
        ⟨(some 134), none, .f (.mv (.t 8))⟩,
        ⟨(some 135), none, .f (.slcS (.t 133) (some (.t 134)) none)⟩,
        ⟨(some 136), none, .f (.mv (.t 1))⟩,
        ⟨(some 137), none, .x (.call 159 [(.t 135), (.t 136)])⟩,
        ⟨(some 13), none, .f (.mv (.t 137))⟩])
      (.seq (.seq (.reg [
        ⟨(some 138), none, .f (.mv (.t 13))⟩,
        ⟨(some 139), none, .f (.bin .lss (.t 138) (.c (.int .i64 0)))⟩])
      (.cond (.t 139)
       (.seq (.reg [
         ⟨(some 4), none, .f (.mv (.c (.int .i64 (-1))))⟩])
       .ret)
       .skip))
      (.seq (.reg [
        ⟨(some 140), none, .f (.mv (.t 8))⟩,
        ⟨(some 141), none, .f (.mv (.t 13))⟩,
        ⟨(some 142), none, .f (.bin .add (.t 140) (.t 141))⟩,
        ⟨(some 4), none, .f (.mv (.t 142))⟩])
      .ret)))
      .skip))))))))))))
 (.seq (.reg [
   ⟨(some 4), none, .f (.mv (.c (.int .i64 (-1))))⟩])
 .ret))))))))))
theorem ok146 : fnComp Tryd.prog 146 = some (143, c146, [(.mv (.t 4))]) := by kernel_rfl

/-- internal/stringslite.IndexByte -/
def c155 : CC :=
 (.seq (.reg [
   ⟨(some 4), none, .f (.mv (.c (.int .i64 0)))⟩])
 (.seq (.reg [
   ⟨(some 5), none, .f (.mv (.t 0))⟩,
   ⟨(some 6), none, .f (.mv (.t 1))⟩,
   ⟨(some 7), none, .x (.call 172 [(.t 5), (.t 6)])⟩,
   ⟨(some 4), none, .f (.mv (.t 7))⟩])
 .ret))
theorem ok155 : fnComp Tryd.prog 155 = some (8, c155, [(.mv (.t 4))]) := by kernel_rfl

end Go.Proofs.YtcmcfmgabafljaaDoor

namespace Go.Proofs.YtcmcfmgabafljaaDoor
open Go Go.IW
/-- loop.example/g00003/laws.FnExactEncodeQuery -/
def c4 : CC :=
 (.seq (.reg [
   ⟨(some 1), none, .x (.box 24 2 (.t 0))⟩,
   ⟨(some 2), none, .f (.mv (.c (.bool false)))⟩])
 (.seq (.reg [
   ⟨(some 3), none, .f (.mv (.c (.int .i64 1048576)))⟩])
 (.seq (.reg [
   ⟨(some 12), none, .f (.ldA 2 (.t 1))⟩,
   ⟨(some 13), none, .f (.mv (.t 3))⟩,
   ⟨(some 14), none, .x (.call 14 [(.t 12), (.t 13)])⟩,
   ⟨(some 3), none, .f (.mv (.t 14))⟩])
 (.seq (.seq (.reg [
   ⟨(some 15), none, .f (.mv (.t 3))⟩,
   ⟨(some 16), none, .f (.bin .lss (.t 15) (.c (.int .i64 0)))⟩])
 (.cond (.t 16)
  (.seq (.reg [
    ⟨(some 2), none, .f (.mv (.c (.bool true)))⟩])
  .ret)
  .skip))
 (.seq (.reg [
   ⟨(some 18), none, .f (.ldA 2 (.t 1))⟩,
   ⟨(some 19), none, .x (.call 16 [(.t 18)])⟩,
   ⟨(some 20), none, .x (.call 15 [(.t 19)])⟩,
   ⟨(some 17), none, .f (.mv (.t 20))⟩,
   ⟨(some 21), none, .f (.ext 0 (.t 17))⟩,
   ⟨(some 22), none, .f (.ext 1 (.t 17))⟩,
   ⟨(some 4), none, .f (.mv (.t 21))⟩,
   ⟨(some 5), none, .f (.mv (.t 22))⟩])
 (.seq (.reg [
   ⟨(some 24), none, .f (.ldA 2 (.t 1))⟩,
   ⟨(some 25), none, .x (.call 16 [(.t 24)])⟩,
   ⟨(some 26), none, .x (.call 17 [(.t 25)])⟩,
   ⟨(some 23), none, .f (.mv (.t 26))⟩,
   ⟨(some 27), none, .f (.ext 0 (.t 23))⟩,
   ⟨(some 28), none, .f (.ext 1 (.t 23))⟩,
   ⟨(some 6), none, .f (.mv (.t 27))⟩,
   ⟨(some 7), none, .f (.mv (.t 28))⟩])
 (.seq (.seq (.reg [
   ⟨(some 29), none, .f (.mv (.t 6))⟩,
   ⟨(some 30), none, .f (.mv (.t 4))⟩,
   ⟨(some 31), none, .x (.call 18 [(.t 29), (.t 30)])⟩,
   ⟨(some 32), none, .f (.un .not (.t 31))⟩,
   ⟨(some 33), none, .f (.mv (.t 32))⟩,
   ⟨(some 34), (some (33, false)), .f (.mv (.t 7))⟩,
   ⟨(some 35), (some (33, false)), .f (.mv (.t 5))⟩,
   ⟨(some 36), (some (33, false)), .f (.bin .neq (.t 34) (.t 35))⟩,
   ⟨(some 37), none, .f (.pick (.t 33) (.c (.bool true)) (.t 36))⟩])
 (.cond (.t 37)
  (.seq (.reg [
    ⟨(some 2), none, .f (.mv (.c (.bool false)))⟩])
  .ret)
  .skip))
 (.seq (.reg [
   ⟨(some 8), none, .f (.mv (.c (.int .i64 1)))⟩])
 (.seq (.reg [
   ⟨(some 38), none, .f (.mv (.t 6))⟩,
   ⟨(some 39), none, .f (.mv (.t 8))⟩,
   ⟨(some 40), none, .x (.call 19 [(.t 38), (.t 39)])⟩,
   ⟨(some 8), none, .f (.mv (.t 40))⟩])
 (.seq (.reg [
   ⟨(some 9), none, .f (.mv (.c (.int .i64 1)))⟩])
 (.seq (.reg [
   ⟨(some 41), none, .f (.mv (.t 6))⟩,
   ⟨(some 42), none, .f (.mv (.t 9))⟩,
   ⟨(some 43), none, .x (.call 20 [(.t 41), (.t 42)])⟩,
   ⟨(some 9), none, .f (.mv (.t 43))⟩])
 (.seq (.seq (.reg [
   ⟨(some 44), none, .f (.mv (.t 9))⟩,
   ⟨(some 45), none, .f (.bin .lss (.t 44) (.c (.int .i64 0)))⟩])
 (.cond (.t 45)
  (.seq (.reg [
    ⟨(some 2), none, .f (.mv (.c (.bool false)))⟩])
  .ret)
  .skip))
 (.seq (.seq (.reg [
   ⟨(some 46), none, .f (.mv (.t 9))⟩,
   ⟨(some 47), none, .f (.mv (.t 8))⟩,
   ⟨(some 48), none, .f (.bin .neq (.t 46) (.t 47))⟩])
 (.cond (.t 48)
  (.seq (.reg [
    ⟨(some 2), none, .f (.mv (.c (.bool false)))⟩])
  .ret)
  .skip))
 (.seq (.reg [
   ⟨(some 50), none, .f (.ldA 2 (.t 1))⟩,
   ⟨(some 51), none, .x (.call 16 [(.t 50)])⟩,
   ⟨(some 52), none, .x (.call 17 [(.t 51)])⟩,
   ⟨(some 49), none, .f (.mv (.t 52))⟩,
   ⟨(some 53), none, .f (.ext 0 (.t 49))⟩,
   ⟨(some 54), none, .f (.ext 1 (.t 49))⟩,
   ⟨(some 10), none, .f (.mv (.t 53))⟩,
   ⟨(some 11), none, .f (.mv (.t 54))⟩])
 (.seq (.seq (.reg [
   ⟨(some 55), none, .f (.mv (.t 10))⟩,
   ⟨(some 56), none, .f (.mv (.t 4))⟩,
   ⟨(some 57), none, .x (.call 18 [(.t 55), (.t 56)])⟩,
   ⟨(some 58), none, .f (.un .not (.t 57))⟩,
   ⟨(some 59), none, .f (.mv (.t 58))⟩,
   ⟨(some 60), (some (59, false)), .f (.mv (.t 11))⟩,
   ⟨(some 61), (some (59, false)), .f (.mv (.t 5))⟩,
   ⟨(some 62), (some (59, false)), .f (.bin .neq (.t 60) (.t 61))⟩,
   ⟨(some 63), none, .f (.pick (.t 59) (.c (.bool true)) (.t 62))⟩])
 (.cond (.t 63)
  (.seq (.reg [
    ⟨(some 2), none, .f (.mv (.c (.bool false)))⟩])
  .ret)
  .skip))
 (.seq (.reg [
   ⟨(some 9), none, .f (.mv (.c (.int .i64 1)))⟩])
 (.seq (.reg [
   ⟨(some 64), none, .f (.mv (.t 6))⟩,
   ⟨(some 65), none, .f (.mv (.t 9))⟩,
   ⟨(some 66), none, .x (.call 20 [(.t 64), (.t 65)])⟩,
   ⟨(some 9), none, .f (.mv (.t 66))⟩])
 (.seq (.seq (.reg [
   ⟨(some 67), none, .f (.mv (.t 9))⟩,
   ⟨(some 68), none, .f (.bin .lss (.t 67) (.c (.int .i64 0)))⟩])
 (.cond (.t 68)
  (.seq (.reg [
    ⟨(some 2), none, .f (.mv (.c (.bool false)))⟩])
  .ret)
  .skip))
 (.seq (.seq (.reg [
   ⟨(some 69), none, .f (.mv (.t 9))⟩,
   ⟨(some 70), none, .f (.mv (.t 8))⟩,
   ⟨(some 71), none, .f (.bin .neq (.t 69) (.t 70))⟩])
 (.cond (.t 71)
  (.seq (.reg [
    ⟨(some 2), none, .f (.mv (.c (.bool false)))⟩])
  .ret)
  .skip))
 (.seq (.reg [
   ⟨(some 2), none, .f (.mv (.c (.bool true)))⟩])
 .ret))))))))))))))))))))
theorem ok4 : fnComp Tryd.prog 4 = some (72, c4, [(.mv (.t 2))]) := by kernel_rfl

/-- loop.example/g00003/laws.szNameQuery -/
def c14 : CC :=
 (.seq (.reg [
   ⟨(some 2), none, .x (.box 24 2 (.t 0))⟩,
   ⟨(some 4), none, .f (.mv (.c (.int .i64 0)))⟩])
 (.seq (.reg [
   ⟨(some 5), none, .f (.mv (.t 1))⟩,
   ⟨(some 6), none, .f (.fadr 1 (.t 2))⟩,
   ⟨(some 7), none, .f (.ld (.t 6))⟩,
   ⟨(some 8), none, .f (.lenS (.t 7))⟩,
   ⟨(some 9), none, .f (.bin .sub (.t 5) (.t 8))⟩,
   ⟨(some 1), none, .f (.mv (.t 9))⟩])
 (.seq (.seq (.reg [
   ⟨(some 10), none, .f (.mv (.t 1))⟩,
   ⟨(some 11), none, .f (.bin .lss (.t 10) (.c (.int .i64 0)))⟩])
 (.cond (.t 11)
  (.seq (.reg [
    ⟨(some 4), none, .f (.mv (.c (.int .i64 (-1))))⟩])
  .ret)
  .skip))
 (.seq (.reg [
   ⟨(some 12), none, .f (.mv (.t 1))⟩,
   ⟨(some 4), none, .f (.mv (.t 12))⟩])
 .ret))))
theorem ok14 : fnComp Tryd.prog 14 = some (13, c14, [(.mv (.t 4))]) := by kernel_rfl

/-- loop.example/g00003/spec.EncodeQuery -/
def c15 : CC :=
 (.seq (.reg [
   ⟨(some 1), none, .x (.box 29 2 (.t 0))⟩,
   ⟨(some 2), none, .f (.mv (.c .nilslice))⟩,
   ⟨(some 3), none, .f (.mv (.c (.int .i64 0)))⟩])
 (.seq (.seq (.reg [
   ⟨(some 5), none, .f (.fadr 0 (.t 1))⟩,
   ⟨(some 6), none, .f (.ld (.t 5))⟩,
   ⟨(some 7), none, .x (.call 60 [(.t 6)])⟩,
   ⟨(some 8), none, .f (.un .not (.t 7))⟩,
   ⟨(some 9), none, .f (.mv (.t 8))⟩,
   ⟨(some 10), (some (9, false)), .f (.fadr 1 (.t 1))⟩,
   ⟨(some 11), (some (9, false)), .f (.ld (.t 10))⟩,
   ⟨(some 12), (some (9, false)), .x (.call 12 [(.t 11)])⟩,
   ⟨(some 13), (some (9, false)), .f (.un .not (.t 12))⟩,
   ⟨(some 14), none, .f (.pick (.t 9) (.c (.bool true)) (.t 13))⟩])
 (.cond (.t 14)
  (.seq (.reg [
    ⟨(some 2), none, .f (.mv (.c .nilslice))⟩,
    ⟨(some 3), none, .f (.mv (.c (.int .i64 1)))⟩])
  .ret)
  .skip))
 (.seq (.treg [
   ⟨(some 15), none, .f (.fadr 0 (.t 1))⟩,
   ⟨(some 16), none, .f (.ld (.t 15))⟩,
   ⟨(some 17), none, .x (.call 62 [(.t 16), (.c (.int .i64 2))])⟩,
   ⟨(some 18), none, .f (.fadr 1 (.t 1))⟩,
   ⟨(some 19), none, .f (.ld (.t 18))⟩,
   ⟨(some 20), none, .f (.lenS (.t 19))⟩,
   ⟨(some 21), none, .f (.cvI .u8 (.t 20))⟩,
   ⟨(some 22), none, .x (.bslice 5 1 [(.int .u8 0)] 2 [(0, (.c (.int .u8 0))), (1, (.t 21))])⟩,
   ⟨(some 23), none, .x (.call 61 [(.t 17), (.t 22)])⟩,
   ⟨(some 4), none, .f (.mv (.t 23))⟩]
   [[], [0], [1, 0], [], [3], [4, 3], [5, 4, 3], [6, 5, 4, 3], [2, 1, 0, 7, 6, 5, 4, 3], [8, 2, 1, 0, 7, 6, 5, 4, 3]] (.fl 0 (.fl 1 (.fl 3 (.fl 4 (.fl 5 (.fl 6 (.br 2 (.br 7 (.br 8 (.fl 9 .fin) .stop) .stop) (.br 7 (.br 2 (.br 8 (.fl 9 .fin) .stop) .stop) .stop)))))))))
 (.seq (.reg [
   ⟨(some 24), none, .f (.mv (.t 4))⟩,
   ⟨(some 25), none, .f (.fadr 1 (.t 1))⟩,
   ⟨(some 26), none, .f (.ld (.t 25))⟩,
   ⟨(some 27), none, .x (.s2b 5 (.t 26))⟩,
   ⟨(some 28), none, .x (.call 61 [(.t 24), (.t 27)])⟩,
   ⟨(some 2), none, .f (.mv (.t 28))⟩,
   ⟨(some 3), none, .f (.mv (.c (.int .i64 0)))⟩])
 .ret))))
theorem ok15 : fnComp Tryd.prog 15 = some (29, c15, [(.mv (.t 2)), (.mv (.t 3))]) := by kernel_rfl

/-- loop.example/g00003/laws.toNameQuery -/
def c16 : CC :=
 (.seq (.reg [
   ⟨(some 1), none, .x (.box 24 2 (.t 0))⟩,
   ⟨(some 2), none, .x (.zero 29 2 [(.int .i64 0), (.str [])])⟩])
 (.seq (.reg [
   ⟨(some 3), none, .x (.zero 29 2 [(.int .i64 0), (.str [])])⟩])
 (.seq (.reg [
   ⟨(some 4), none, .f (.fadr 0 (.t 1))⟩,
   ⟨(some 5), none, .f (.ld (.t 4))⟩,
   ⟨(some 6), none, .f (.fadr 0 (.t 3))⟩,
   ⟨none, none, .x (.st 1 (.t 6) (.t 5))⟩])
 (.seq (.reg [
   ⟨(some 7), none, .f (.fadr 1 (.t 1))⟩,
   ⟨(some 8), none, .f (.ld (.t 7))⟩,
   ⟨(some 9), none, .f (.fadr 1 (.t 3))⟩,
   ⟨none, none, .x (.st 1 (.t 9) (.t 8))⟩])
 (.seq (.reg [
   ⟨(some 10), none, .f (.ldA 2 (.t 3))⟩,
   ⟨none, none, .x (.st 2 (.t 2) (.t 10))⟩])
 .ret)))))
theorem ok16 : fnComp Tryd.prog 16 = some (11, c16, [(.ldA 2 (.t 2))]) := by kernel_rfl

/-- loop.example/g00003/impl.EncodeQuery -/
def c17 : CC :=
 (.seq (.reg [
   ⟨(some 1), none, .x (.box 29 2 (.t 0))⟩,
   ⟨(some 2), none, .f (.mv (.c .nilslice))⟩,
   ⟨(some 3), none, .f (.mv (.c (.int .i64 0)))⟩])
 (.seq (.seq (.reg [
   ⟨(some 4), none, .f (.fadr 0 (.t 1))⟩,
   ⟨(some 5), none, .f (.ld (.t 4))⟩,
   ⟨(some 6), none, .f (.bin .lss (.t 5) (.c (.int .i64 0)))⟩,
   ⟨(some 7), none, .f (.mv (.t 6))⟩,
   ⟨(some 8), (some (7, false)), .f (.fadr 0 (.t 1))⟩,
   ⟨(some 9), (some (7, false)), .f (.ld (.t 8))⟩,
   ⟨(some 10), (some (7, false)), .f (.bin .gtr (.t 9) (.c (.int .i64 65535)))⟩,
   ⟨(some 11), none, .f (.pick (.t 7) (.c (.bool true)) (.t 10))⟩,
   ⟨(some 12), none, .f (.mv (.t 11))⟩,
   ⟨(some 13), (some (12, false)), .f (.fadr 1 (.t 1))⟩,
   ⟨(some 14), (some (12, false)), .f (.ld (.t 13))⟩,
   ⟨(some 15), (some (12, false)), .x (.call 13 [(.t 14)])⟩,
   ⟨(some 16), (some (12, false)), .f (.un .not (.t 15))⟩,
   ⟨(some 17), none, .f (.pick (.t 12) (.c (.bool true)) (.t 16))⟩])
 (.cond (.t 17)
  (.seq (.reg [
    ⟨(some 2), none, .f (.mv (.c .nilslice))⟩,
    ⟨(some 3), none, .f (.mv (.c (.int .i64 1)))⟩])
  .ret)
  .skip))
 (.seq (.treg [
   ⟨(some 18), none, .f (.fadr 0 (.t 1))⟩,
   ⟨(some 19), none, .f (.ld (.t 18))⟩,
   ⟨(some 20), none, .x (.call 63 [(.c .nilslice), (.c (.int .i64 2)), (.t 19)])⟩,
   ⟨(some 21), none, .f (.fadr 1 (.t 1))⟩,
   ⟨(some 22), none, .f (.ld (.t 21))⟩,
   ⟨(some 23), none, .f (.lenS (.t 22))⟩,
   ⟨(some 24), none, .f (.cvI .u8 (.t 23))⟩,
   ⟨(some 25), none, .x (.bslice 5 1 [(.int .u8 0)] 2 [(0, (.c (.int .u8 0))), (1, (.t 24))])⟩,
   ⟨(some 26), none, .x (.app 5 1 1 (.t 20) (.t 25))⟩,
   ⟨(some 27), none, .f (.fadr 1 (.t 1))⟩,
   ⟨(some 28), none, .f (.ld (.t 27))⟩,
   ⟨(some 29), none, .x (.appS 5 1 (.t 26) (.t 28))⟩,
   ⟨(some 2), none, .f (.mv (.t 29))⟩,
   ⟨(some 3), none, .f (.mv (.c (.int .i64 0)))⟩]
   [[], [0], [1, 0], [], [3], [4, 3], [5, 4, 3], [6, 5, 4, 3], [2, 1, 0, 7, 6, 5, 4, 3], [], [9], [8, 2, 1, 0, 7, 6, 5, 4, 3, 10, 9], [11, 8, 2, 1, 0, 7, 6, 5, 4, 3, 10, 9], [12, 11, 8, 2, 1, 0, 7, 6, 5, 4, 3, 10, 9]] (.fl 0 (.fl 1 (.fl 3 (.fl 4 (.fl 5 (.fl 6 (.fl 9 (.fl 10 (.br 2 (.br 7 (.br 8 (.br 11 (.fl 12 (.fl 13 .fin)) .stop) .stop) .stop) (.br 7 (.br 2 (.br 8 (.br 11 (.fl 12 (.fl 13 .fin)) .stop) .stop) .stop) .stop)))))))))))
 .ret)))
theorem ok17 : fnComp Tryd.prog 17 = some (30, c17, [(.mv (.t 2)), (.mv (.t 3))]) := by kernel_rfl

/-- loop.example/g00003/laws.eqByteS -/
def c18 : CC :=
 (.seq (.reg [
   ⟨(some 4), none, .f (.mv (.c (.bool false)))⟩])
 (.seq (.seq (.reg [
   ⟨(some 6), none, .f (.mv (.t 0))⟩,
   ⟨(some 7), none, .f (.len (.t 6))⟩,
   ⟨(some 8), none, .f (.mv (.t 1))⟩,
   ⟨(some 9), none, .f (.len (.t 8))⟩,
   ⟨(some 10), none, .f (.bin .neq (.t 7) (.t 9))⟩])
 (.cond (.t 10)
  (.seq (.reg [
    ⟨(some 4), none, .f (.mv (.c (.bool false)))⟩])
  .ret)
  .skip))
 (.seq (.seq (.reg [
   ⟨(some 5), none, .f (.mv (.c (.int .i64 0)))⟩])
 (.block 0 (.loop (.seq (.seq (.reg [
     ⟨(some 11), none, .f (.mv (.t 5))⟩,
     ⟨(some 12), none, .f (.mv (.t 0))⟩,
     ⟨(some 13), none, .f (.len (.t 12))⟩,
     ⟨(some 14), none, .f (.bin .lss (.t 11) (.t 13))⟩])
   (.cond (.t 14)
    .skip
    (.exit 0)))
   (.seq (.block 1 (.seq (.dreg [
      ⟨(some 17), none, .f (.mv (.t 0))⟩,
      ⟨(some 18), none, .f (.mv (.t 5))⟩,
      ⟨(some 19), none, .f (.iadr 1 (.t 17) (.t 18))⟩,
      ⟨(some 20), none, .f (.ld (.t 19))⟩,
      ⟨(some 21), none, .f (.mv (.t 1))⟩,
      ⟨(some 22), none, .f (.mv (.t 5))⟩,
      ⟨(some 23), none, .f (.iadr 1 (.t 21) (.t 22))⟩,
      ⟨(some 24), none, .f (.ld (.t 23))⟩,
      ⟨(some 25), none, .f (.bin .neq (.t 20) (.t 24))⟩]
      [false, false, false, false, false, false, false, false, false] [[], [], [0, 1], [2, 0, 1], [], [], [4, 5], [6, 4, 5], [3, 2, 0, 1, 7, 6, 4, 5]] [0, 1, 2, 3, 4, 5, 6, 7, 8])
    (.cond (.t 25)
     (.seq (.reg [
       ⟨(some 4), none, .f (.mv (.c (.bool false)))⟩])
     .ret)
     .skip)))
   (.reg [
     ⟨(some 15), none, .f (.mv (.t 5))⟩,
     ⟨(some 16), none, .f (.bin .add (.t 15) (.c (.int .i64 1)))⟩,
     ⟨(some 5), none, .f (.mv (.t 16))⟩]))))))
 (.seq (.reg [
   ⟨(some 4), none, .f (.mv (.c (.bool true)))⟩])
 .ret))))
theorem ok18 : fnComp Tryd.prog 18 = some (26, c18, [(.mv (.t 4))]) := by kernel_rfl

/-- loop.example/g00003/laws.markByteS -/
def c19 : CC :=
 (.seq (.reg [
   ⟨(some 4), none, .f (.mv (.c (.int .i64 0)))⟩])
 (.seq (.seq (.reg [
   ⟨(some 5), none, .f (.mv (.c (.int .i64 0)))⟩])
 (.block 0 (.loop (.seq (.seq (.reg [
     ⟨(some 6), none, .f (.mv (.t 5))⟩,
     ⟨(some 7), none, .f (.mv (.t 0))⟩,
     ⟨(some 8), none, .f (.len (.t 7))⟩,
     ⟨(some 9), none, .f (.bin .lss (.t 6) (.t 8))⟩])
   (.cond (.t 9)
    .skip
    (.exit 0)))
   (.seq (.block 1 (.seq (.reg [
      ⟨(some 12), none, .f (.mv (.t 0))⟩,
      ⟨(some 13), none, .f (.mv (.t 5))⟩,
      ⟨(some 14), none, .f (.mv (.t 1))⟩,
      ⟨(some 15), none, .f (.cvI .u8 (.t 14))⟩,
      ⟨(some 16), none, .f (.iadr 1 (.t 12) (.t 13))⟩,
      ⟨none, none, .x (.st 1 (.t 16) (.t 15))⟩])
    (.reg [
      ⟨(some 17), none, .f (.mv (.t 1))⟩,
      ⟨(some 18), none, .f (.bin .add (.t 17) (.c (.int .i64 1)))⟩,
      ⟨(some 1), none, .f (.mv (.t 18))⟩])))
   (.reg [
     ⟨(some 10), none, .f (.mv (.t 5))⟩,
     ⟨(some 11), none, .f (.bin .add (.t 10) (.c (.int .i64 1)))⟩,
     ⟨(some 5), none, .f (.mv (.t 11))⟩]))))))
 (.seq (.reg [
   ⟨(some 19), none, .f (.mv (.t 1))⟩,
   ⟨(some 4), none, .f (.mv (.t 19))⟩])
 .ret)))
theorem ok19 : fnComp Tryd.prog 19 = some (20, c19, [(.mv (.t 4))]) := by kernel_rfl

/-- loop.example/g00003/laws.heldByteS -/
def c20 : CC :=
 (.seq (.reg [
   ⟨(some 4), none, .f (.mv (.c (.int .i64 0)))⟩])
 (.seq (.seq (.reg [
   ⟨(some 5), none, .f (.mv (.c (.int .i64 0)))⟩])
 (.block 0 (.loop (.seq (.seq (.reg [
     ⟨(some 6), none, .f (.mv (.t 5))⟩,
     ⟨(some 7), none, .f (.mv (.t 0))⟩,
     ⟨(some 8), none, .f (.len (.t 7))⟩,
     ⟨(some 9), none, .f (.bin .lss (.t 6) (.t 8))⟩])
   (.cond (.t 9)
    .skip
    (.exit 0)))
   (.seq (.block 1 (.seq (.seq (.reg [
      ⟨(some 12), none, .f (.mv (.t 0))⟩,
      ⟨(some 13), none, .f (.mv (.t 5))⟩,
      ⟨(some 14), none, .f (.iadr 1 (.t 12) (.t 13))⟩,
      ⟨(some 15), none, .f (.ld (.t 14))⟩,
      ⟨(some 16), none, .f (.mv (.t 1))⟩,
      ⟨(some 17), none, .f (.cvI .u8 (.t 16))⟩,
      ⟨(some 18), none, .f (.bin .neq (.t 15) (.t 17))⟩])
    (.cond (.t 18)
     (.seq (.reg [
       ⟨(some 4), none, .f (.mv (.c (.int .i64 (-1))))⟩])
     .ret)
     .skip))
    (.reg [
      ⟨(some 19), none, .f (.mv (.t 1))⟩,
      ⟨(some 20), none, .f (.bin .add (.t 19) (.c (.int .i64 1)))⟩,
      ⟨(some 1), none, .f (.mv (.t 20))⟩])))
   (.reg [
     ⟨(some 10), none, .f (.mv (.t 5))⟩,
     ⟨(some 11), none, .f (.bin .add (.t 10) (.c (.int .i64 1)))⟩,
     ⟨(some 5), none, .f (.mv (.t 11))⟩]))))))
 (.seq (.reg [
   ⟨(some 21), none, .f (.mv (.t 1))⟩,
   ⟨(some 4), none, .f (.mv (.t 21))⟩])
 .ret)))
theorem ok20 : fnComp Tryd.prog 20 = some (22, c20, [(.mv (.t 4))]) := by kernel_rfl

/-- loop.example/g00003/spec.l10PortOK -/
def c60 : CC :=
 (.seq (.reg [
   ⟨(some 2), none, .f (.mv (.c (.bool false)))⟩])
 (.seq (.reg [
   ⟨(some 3), none, .f (.mv (.t 0))⟩,
   ⟨(some 4), none, .x (.call 78 [(.t 3), (.c (.int .i64 0)), (.c (.int .i64 65535))])⟩,
   ⟨(some 2), none, .f (.mv (.t 4))⟩])
 .ret))
theorem ok60 : fnComp Tryd.prog 60 = some (5, c60, [(.mv (.t 2))]) := by kernel_rfl

/-- loop.example/g00003/spec.l01Join -/
def c61 : CC :=
 (.seq (.reg [
   ⟨(some 4), none, .f (.mv (.c .nilslice))⟩])
 (.seq (.reg [
   ⟨(some 7), none, .f (.mv (.t 0))⟩,
   ⟨(some 8), none, .x (.call 107 [(.t 7)])⟩,
   ⟨(some 5), none, .f (.mv (.t 8))⟩])
 (.seq (.seq (.reg [
   ⟨(some 6), none, .f (.mv (.c (.int .i64 0)))⟩])
 (.block 0 (.loop (.seq (.seq (.reg [
     ⟨(some 9), none, .f (.mv (.t 6))⟩,
     ⟨(some 10), none, .f (.mv (.t 1))⟩,
     ⟨(some 11), none, .f (.len (.t 10))⟩,
     ⟨(some 12), none, .f (.bin .lss (.t 9) (.t 11))⟩])
   (.cond (.t 12)
    .skip
    (.exit 0)))
   (.seq (.block 1 (.reg [
      ⟨(some 15), none, .f (.mv (.t 5))⟩,
      ⟨(some 16), none, .f (.mv (.t 1))⟩,
      ⟨(some 17), none, .f (.mv (.t 6))⟩,
      ⟨(some 18), none, .f (.iadr 1 (.t 16) (.t 17))⟩,
      ⟨(some 19), none, .f (.ld (.t 18))⟩,
      ⟨(some 20), none, .x (.bslice 5 1 [(.int .u8 0)] 1 [(0, (.t 19))])⟩,
      ⟨(some 21), none, .x (.app 5 1 1 (.t 15) (.t 20))⟩,
      ⟨(some 5), none, .f (.mv (.t 21))⟩]))
   (.reg [
     ⟨(some 13), none, .f (.mv (.t 6))⟩,
     ⟨(some 14), none, .f (.bin .add (.t 13) (.c (.int .i64 1)))⟩,
     ⟨(some 6), none, .f (.mv (.t 14))⟩]))))))
 (.seq (.reg [
   ⟨(some 22), none, .f (.mv (.t 5))⟩,
   ⟨(some 4), none, .f (.mv (.t 22))⟩])
 .ret))))
theorem ok61 : fnComp Tryd.prog 61 = some (23, c61, [(.mv (.t 4))]) := by kernel_rfl

/-- loop.example/g00003/spec.l03Put -/
def c62 : CC :=
 (.seq (.reg [
   ⟨(some 4), none, .f (.mv (.c .nilslice))⟩])
 (.seq (.reg [
   ⟨(some 7), none, .x (.bslice 5 1 [(.int .u8 0)] 0 [])⟩,
   ⟨(some 5), none, .f (.mv (.t 7))⟩])
 (.seq (.seq (.reg [
   ⟨(some 8), none, .f (.mv (.t 1))⟩,
   ⟨(some 9), none, .f (.bin .sub (.t 8) (.c (.int .i64 1)))⟩,
   ⟨(some 6), none, .f (.mv (.t 9))⟩])
 (.block 0 (.loop (.seq (.seq (.reg [
     ⟨(some 10), none, .f (.mv (.t 6))⟩,
     ⟨(some 11), none, .f (.bin .geq (.t 10) (.c (.int .i64 0)))⟩])
   (.cond (.t 11)
    .skip
    (.exit 0)))
   (.seq (.block 1 (.reg [
      ⟨(some 14), none, .f (.mv (.t 5))⟩,
      ⟨(some 15), none, .f (.mv (.t 0))⟩,
      ⟨(some 16), none, .f (.mv (.t 6))⟩,
      ⟨(some 17), none, .f (.bin .mul (.c (.int .i64 8)) (.t 16))⟩,
      ⟨(some 18), none, .f (.cvI .u64 (.t 17))⟩,
      ⟨(some 19), none, .f (.bin .shr (.t 15) (.t 18))⟩,
      ⟨(some 20), none, .f (.cvI .u8 (.t 19))⟩,
      ⟨(some 21), none, .x (.bslice 5 1 [(.int .u8 0)] 1 [(0, (.t 20))])⟩,
      ⟨(some 22), none, .x (.app 5 1 1 (.t 14) (.t 21))⟩,
      ⟨(some 5), none, .f (.mv (.t 22))⟩]))
   (.reg [
     ⟨(some 12), none, .f (.mv (.t 6))⟩,
     ⟨(some 13), none, .f (.bin .sub (.t 12) (.c (.int .i64 1)))⟩,
     ⟨(some 6), none, .f (.mv (.t 13))⟩]))))))
 (.seq (.reg [
   ⟨(some 23), none, .f (.mv (.t 5))⟩,
   ⟨(some 4), none, .f (.mv (.t 23))⟩])
 .ret))))
theorem ok62 : fnComp Tryd.prog 62 = some (24, c62, [(.mv (.t 4))]) := by kernel_rfl

/-- loop.example/g00003/impl.put -/
def c63 : CC :=
 (.seq (.reg [
   ⟨(some 6), none, .f (.mv (.c .nilslice))⟩])
 (.seq (.seq (.reg [
   ⟨(some 8), none, .f (.mv (.t 1))⟩,
   ⟨(some 9), none, .f (.bin .sub (.t 8) (.c (.int .i64 1)))⟩,
   ⟨(some 7), none, .f (.mv (.t 9))⟩])
 (.block 0 (.loop (.seq (.seq (.reg [
     ⟨(some 10), none, .f (.mv (.t 7))⟩,
     ⟨(some 11), none, .f (.bin .geq (.t 10) (.c (.int .i64 0)))⟩])
   (.cond (.t 11)
    .skip
    (.exit 0)))
   (.seq (.block 1 (.reg [
      ⟨(some 14), none, .f (.mv (.t 0))⟩,
      ⟨(some 15), none, .f (.mv (.t 2))⟩,
      ⟨(some 16), none, .f (.cvI .u64 (.t 15))⟩,
      ⟨(some 17), none, .f (.mv (.t 7))⟩,
      ⟨(some 18), none, .f (.bin .mul (.c (.int .i64 8)) (.t 17))⟩,
      ⟨(some 19), none, .f (.bin .shr (.t 16) (.t 18))⟩,
      ⟨(some 20), none, .f (.cvI .u8 (.t 19))⟩,
      ⟨(some 21), none, .x (.bslice 5 1 [(.int .u8 0)] 1 [(0, (.t 20))])⟩,
      ⟨(some 22), none, .x (.app 5 1 1 (.t 14) (.t 21))⟩,
      ⟨(some 0), none, .f (.mv (.t 22))⟩]))
   (.reg [
     ⟨(some 12), none, .f (.mv (.t 7))⟩,
     ⟨(some 13), none, .f (.bin .sub (.t 12) (.c (.int .i64 1)))⟩,
     ⟨(some 7), none, .f (.mv (.t 13))⟩]))))))
 (.seq (.reg [
   ⟨(some 23), none, .f (.mv (.t 0))⟩,
   ⟨(some 6), none, .f (.mv (.t 23))⟩])
 .ret)))
theorem ok63 : fnComp Tryd.prog 63 = some (24, c63, [(.mv (.t 6))]) := by kernel_rfl

/-- loop.example/g00003/spec.l01Copy -/
def c107 : CC :=
 (.seq (.reg [
   ⟨(some 2), none, .f (.mv (.c .nilslice))⟩])
 (.seq (.reg [
   ⟨(some 5), none, .x (.bslice 5 1 [(.int .u8 0)] 0 [])⟩,
   ⟨(some 3), none, .f (.mv (.t 5))⟩])
 (.seq (.seq (.reg [
   ⟨(some 4), none, .f (.mv (.c (.int .i64 0)))⟩])
 (.block 0 (.loop (.seq (.seq (.reg [
     ⟨(some 6), none, .f (.mv (.t 4))⟩,
     ⟨(some 7), none, .f (.mv (.t 0))⟩,
     ⟨(some 8), none, .f (.len (.t 7))⟩,
     ⟨(some 9), none, .f (.bin .lss (.t 6) (.t 8))⟩])
   (.cond (.t 9)
    .skip
    (.exit 0)))
   (.seq (.block 1 (.reg [
      ⟨(some 12), none, .f (.mv (.t 3))⟩,
      ⟨(some 13), none, .f (.mv (.t 0))⟩,
      ⟨(some 14), none, .f (.mv (.t 4))⟩,
      ⟨(some 15), none, .f (.iadr 1 (.t 13) (.t 14))⟩,
      ⟨(some 16), none, .f (.ld (.t 15))⟩,
      ⟨(some 17), none, .x (.bslice 5 1 [(.int .u8 0)] 1 [(0, (.t 16))])⟩,
      ⟨(some 18), none, .x (.app 5 1 1 (.t 12) (.t 17))⟩,
      ⟨(some 3), none, .f (.mv (.t 18))⟩]))
   (.reg [
     ⟨(some 10), none, .f (.mv (.t 4))⟩,
     ⟨(some 11), none, .f (.bin .add (.t 10) (.c (.int .i64 1)))⟩,
     ⟨(some 4), none, .f (.mv (.t 11))⟩]))))))
 (.seq (.reg [
   ⟨(some 19), none, .f (.mv (.t 3))⟩,
   ⟨(some 2), none, .f (.mv (.t 19))⟩])
 .ret))))
theorem ok107 : fnComp Tryd.prog 107 = some (20, c107, [(.mv (.t 2))]) := by kernel_rfl

/-- loop.example/g00003/spec.l01In -/
def c78 : CC :=
 (.seq (.reg [
   ⟨(some 6), none, .f (.mv (.c (.bool false)))⟩])
 (.seq (.reg [
   ⟨(some 7), none, .f (.mv (.t 0))⟩,
   ⟨(some 8), none, .f (.mv (.t 1))⟩,
   ⟨(some 9), none, .f (.bin .geq (.t 7) (.t 8))⟩,
   ⟨(some 10), none, .f (.mv (.t 9))⟩,
   ⟨(some 11), (some (10, true)), .f (.mv (.t 0))⟩,
   ⟨(some 12), (some (10, true)), .f (.mv (.t 2))⟩,
   ⟨(some 13), (some (10, true)), .f (.bin .leq (.t 11) (.t 12))⟩,
   ⟨(some 14), none, .f (.pick (.t 10) (.t 13) (.c (.bool false)))⟩,
   ⟨(some 6), none, .f (.mv (.t 14))⟩])
 .ret))
theorem ok78 : fnComp Tryd.prog 78 = some (15, c78, [(.mv (.t 6))]) := by kernel_rfl

end Go.Proofs.YtcmcfmgabafljaaDoor

namespace Go.Proofs.YtcmcfmgabafljaaDoor
open Go Go.IW
/-- loop.example/g00003/laws.FnExactDecodeQuery -/
def c5 : CC :=
 (.seq (.reg [
   ⟨(some 2), none, .f (.mv (.c (.bool false)))⟩])
 (.seq (.seq (.reg [
   ⟨(some 8), none, .f (.mv (.t 0))⟩,
   ⟨(some 9), none, .f (.len (.t 8))⟩,
   ⟨(some 10), none, .f (.bin .gtr (.t 9) (.c (.int .i64 1048576)))⟩])
 (.cond (.t 10)
  (.seq (.reg [
    ⟨(some 2), none, .f (.mv (.c (.bool true)))⟩])
  .ret)
  .skip))
 (.seq (.reg [
   ⟨(some 12), none, .f (.mv (.t 0))⟩,
   ⟨(some 13), none, .x (.call 22 [(.t 12)])⟩,
   ⟨(some 14), none, .x (.call 21 [(.t 13)])⟩,
   ⟨(some 11), none, .f (.mv (.t 14))⟩,
   ⟨(some 15), none, .f (.ext 0 (.t 11))⟩,
   ⟨(some 16), none, .f (.ext 1 (.t 11))⟩,
   ⟨(some 3), none, .x (.zero 29 2 [(.int .i64 0), (.str [])])⟩,
   ⟨none, none, .x (.st 2 (.t 3) (.t 15))⟩,
   ⟨(some 4), none, .f (.mv (.t 16))⟩])
 (.seq (.reg [
   ⟨(some 17), none, .f (.mv (.t 0))⟩,
   ⟨(some 18), none, .x (.call 22 [(.t 17)])⟩,
   ⟨(some 5), none, .f (.mv (.t 18))⟩])
 (.seq (.reg [
   ⟨(some 20), none, .f (.mv (.t 5))⟩,
   ⟨(some 21), none, .x (.call 23 [(.t 20)])⟩,
   ⟨(some 19), none, .f (.mv (.t 21))⟩,
   ⟨(some 22), none, .f (.ext 0 (.t 19))⟩,
   ⟨(some 23), none, .f (.ext 1 (.t 19))⟩,
   ⟨(some 6), none, .x (.zero 29 2 [(.int .i64 0), (.str [])])⟩,
   ⟨none, none, .x (.st 2 (.t 6) (.t 22))⟩,
   ⟨(some 7), none, .f (.mv (.t 23))⟩])
 (.seq (.seq (.reg [
   ⟨(some 24), none, .f (.ldA 2 (.t 6))⟩,
   ⟨(some 25), none, .f (.ldA 2 (.t 3))⟩,
   ⟨(some 26), none, .x (.call 24 [(.t 24), (.t 25)])⟩,
   ⟨(some 27), none, .f (.un .not (.t 26))⟩,
   ⟨(some 28), none, .f (.mv (.t 27))⟩,
   ⟨(some 29), (some (28, false)), .f (.mv (.t 7))⟩,
   ⟨(some 30), (some (28, false)), .f (.mv (.t 4))⟩,
   ⟨(some 31), (some (28, false)), .f (.bin .neq (.t 29) (.t 30))⟩,
   ⟨(some 32), none, .f (.pick (.t 28) (.c (.bool true)) (.t 31))⟩])
 (.cond (.t 32)
  (.seq (.reg [
    ⟨(some 2), none, .f (.mv (.c (.bool false)))⟩])
  .ret)
  .skip))
 (.seq (.seq (.reg [
   ⟨(some 33), none, .f (.mv (.t 5))⟩,
   ⟨(some 34), none, .f (.mv (.t 0))⟩,
   ⟨(some 35), none, .x (.call 22 [(.t 34)])⟩,
   ⟨(some 36), none, .x (.call 18 [(.t 33), (.t 35)])⟩,
   ⟨(some 37), none, .f (.un .not (.t 36))⟩])
 (.cond (.t 37)
  (.seq (.reg [
    ⟨(some 2), none, .f (.mv (.c (.bool false)))⟩])
  .ret)
  .skip))
 (.seq (.reg [
   ⟨(some 2), none, .f (.mv (.c (.bool true)))⟩])
 .ret))))))))
theorem ok5 : fnComp Tryd.prog 5 = some (38, c5, [(.mv (.t 2))]) := by kernel_rfl

/-- loop.example/g00003/spec.DecodeQuery -/
def c21 : CC :=
 (.seq (.reg [
   ⟨(some 2), none, .x (.zero 29 2 [(.int .i64 0), (.str [])])⟩,
   ⟨(some 3), none, .f (.mv (.c (.int .i64 0)))⟩])
 (.seq (.reg [
   ⟨(some 7), none, .f (.mv (.t 0))⟩,
   ⟨(some 8), none, .x (.call 64 [(.t 7), (.c (.int .i64 3))])⟩,
   ⟨(some 6), none, .f (.mv (.t 8))⟩,
   ⟨(some 9), none, .f (.ext 0 (.t 6))⟩,
   ⟨(some 10), none, .f (.ext 1 (.t 6))⟩,
   ⟨(some 4), none, .f (.mv (.t 9))⟩,
   ⟨(some 5), none, .f (.mv (.t 10))⟩])
 (.seq (.block 0 (.seq (.reg [
    ⟨(some 12), none, .f (.mv (.t 5))⟩,
    ⟨(some 13), none, .f (.bin .lss (.t 12) (.c (.int .i64 0)))⟩,
    ⟨(some 11), none, .f (.mv (.t 13))⟩])
  (.cond (.t 11)
   (.seq (.reg [
     ⟨(some 14), none, .f (.build [(.int .i64 0), (.str [])] [])⟩,
     ⟨none, none, .x (.st 2 (.t 2) (.t 14))⟩,
     ⟨(some 3), none, .f (.mv (.c (.int .i64 2)))⟩])
   .ret)
   (.seq (.reg [
     ⟨(some 16), none, .f (.mv (.t 5))⟩,
     ⟨(some 17), none, .f (.mv (.t 0))⟩,
     ⟨(some 18), none, .f (.len (.t 17))⟩,
     ⟨(some 19), none, .f (.bin .lss (.t 16) (.t 18))⟩,
     ⟨(some 15), none, .f (.mv (.t 19))⟩])
   (.cond (.t 15)
    (.seq (.reg [
      ⟨(some 20), none, .f (.build [(.int .i64 0), (.str [])] [])⟩,
      ⟨none, none, .x (.st 2 (.t 2) (.t 20))⟩,
      ⟨(some 3), none, .f (.mv (.c (.int .i64 5)))⟩])
    .ret)
    (.seq (.reg [
      ⟨(some 22), none, .f (.mv (.t 0))⟩,
      ⟨(some 23), none, .f (.iadr 1 (.t 22) (.c (.int .i64 2)))⟩,
      ⟨(some 24), none, .f (.ld (.t 23))⟩,
      ⟨(some 25), none, .f (.bin .neq (.t 24) (.c (.int .u8 0)))⟩,
      ⟨(some 21), none, .f (.mv (.t 25))⟩])
    (.cond (.t 21)
     (.seq (.reg [
       ⟨(some 26), none, .f (.build [(.int .i64 0), (.str [])] [])⟩,
       ⟨none, none, .x (.st 2 (.t 2) (.t 26))⟩,
       ⟨(some 3), none, .f (.mv (.c (.int .i64 9)))⟩])
     .ret)
     (.seq (.reg [
       ⟨(some 28), none, .f (.mv (.t 4))⟩,
       ⟨(some 29), none, .x (.call 12 [(.t 28)])⟩,
       ⟨(some 30), none, .f (.un .not (.t 29))⟩,
       ⟨(some 27), none, .f (.mv (.t 30))⟩])
     (.cond (.t 27)
      (.seq (.reg [
        ⟨(some 31), none, .f (.build [(.int .i64 0), (.str [])] [])⟩,
        ⟨none, none, .x (.st 2 (.t 2) (.t 31))⟩,
        ⟨(some 3), none, .f (.mv (.c (.int .i64 6)))⟩])
      .ret)
      .skip)))))))))
 (.seq (.reg [
   ⟨(some 32), none, .f (.mv (.t 0))⟩,
   ⟨(some 33), none, .f (.slc 1 (.t 32) none (some (.c (.int .i64 2))) none)⟩,
   ⟨(some 34), none, .x (.call 65 [(.t 33)])⟩,
   ⟨(some 35), none, .f (.mv (.t 4))⟩,
   ⟨(some 36), none, .f (.build [(.int .i64 0), (.str [])] [(0, 1, (.t 34)), (1, 1, (.t 35))])⟩,
   ⟨none, none, .x (.st 2 (.t 2) (.t 36))⟩,
   ⟨(some 3), none, .f (.mv (.c (.int .i64 0)))⟩])
 .ret))))
theorem ok21 : fnComp Tryd.prog 21 = some (37, c21, [(.ldA 2 (.t 2)), (.mv (.t 3))]) := by kernel_rfl

/-- loop.example/g00003/laws.toByteS -/
def c22 : CC :=
 (.seq (.reg [
   ⟨(some 2), none, .f (.mv (.c .nilslice))⟩])
 (.seq (.reg [
   ⟨(some 5), none, .f (.mv (.t 0))⟩,
   ⟨(some 6), none, .f (.len (.t 5))⟩,
   ⟨(some 7), none, .x (.mks 5 1 1 [(.int .u8 0)] (.t 6) (.t 6))⟩,
   ⟨(some 3), none, .f (.mv (.t 7))⟩])
 (.seq (.seq (.reg [
   ⟨(some 4), none, .f (.mv (.c (.int .i64 0)))⟩])
 (.block 0 (.loop (.seq (.seq (.reg [
     ⟨(some 8), none, .f (.mv (.t 4))⟩,
     ⟨(some 9), none, .f (.mv (.t 0))⟩,
     ⟨(some 10), none, .f (.len (.t 9))⟩,
     ⟨(some 11), none, .f (.bin .lss (.t 8) (.t 10))⟩])
   (.cond (.t 11)
    .skip
    (.exit 0)))
   (.seq (.block 1 (.reg [
      ⟨(some 14), none, .f (.mv (.t 3))⟩,
      ⟨(some 15), none, .f (.mv (.t 4))⟩,
      ⟨(some 16), none, .f (.mv (.t 0))⟩,
      ⟨(some 17), none, .f (.mv (.t 4))⟩,
      ⟨(some 18), none, .f (.iadr 1 (.t 16) (.t 17))⟩,
      ⟨(some 19), none, .f (.ld (.t 18))⟩,
      ⟨(some 20), none, .f (.iadr 1 (.t 14) (.t 15))⟩,
      ⟨none, none, .x (.st 1 (.t 20) (.t 19))⟩]))
   (.reg [
     ⟨(some 12), none, .f (.mv (.t 4))⟩,
     ⟨(some 13), none, .f (.bin .add (.t 12) (.c (.int .i64 1)))⟩,
     ⟨(some 4), none, .f (.mv (.t 13))⟩]))))))
 (.seq (.reg [
   ⟨(some 21), none, .f (.mv (.t 3))⟩,
   ⟨(some 2), none, .f (.mv (.t 21))⟩])
 .ret))))
theorem ok22 : fnComp Tryd.prog 22 = some (22, c22, [(.mv (.t 2))]) := by kernel_rfl

/-- loop.example/g00003/impl.DecodeQuery -/
def c23 : CC :=
 (.seq (.reg [
   ⟨(some 2), none, .x (.zero 29 2 [(.int .i64 0), (.str [])])⟩,
   ⟨(some 3), none, .f (.mv (.c (.int .i64 0)))⟩])
 (.seq (.reg [
   ⟨(some 8), none, .f (.mv (.t 0))⟩,
   ⟨(some 9), none, .f (.build [.nilslice, (.bool false)] [(0, 1, (.t 8))])⟩,
   ⟨(some 10), none, .x (.box 105 2 (.t 9))⟩,
   ⟨(some 4), none, .f (.mv (.t 10))⟩])
 (.seq (.reg [
   ⟨(some 11), none, .f (.mv (.t 4))⟩,
   ⟨(some 12), none, .x (.call 66 [(.t 11), (.c (.int .i64 2))])⟩,
   ⟨(some 13), none, .f (.build [(.int .i64 0), (.str [])] [(0, 1, (.t 12))])⟩,
   ⟨(some 5), none, .x (.zero 29 2 [(.int .i64 0), (.str [])])⟩,
   ⟨none, none, .x (.st 2 (.t 5) (.t 13))⟩])
 (.seq (.reg [
   ⟨(some 14), none, .f (.mv (.t 4))⟩,
   ⟨(some 15), none, .x (.call 66 [(.t 14), (.c (.int .i64 1))])⟩,
   ⟨(some 6), none, .f (.mv (.t 15))⟩])
 (.seq (.reg [
   ⟨(some 16), none, .f (.mv (.t 4))⟩,
   ⟨(some 17), none, .f (.mv (.t 4))⟩,
   ⟨(some 18), none, .x (.call 66 [(.t 17), (.c (.int .i64 1))])⟩,
   ⟨(some 19), none, .x (.call 67 [(.t 16), (.t 18)])⟩,
   ⟨(some 20), none, .f (.b2s (.t 19))⟩,
   ⟨(some 21), none, .f (.fadr 1 (.t 5))⟩,
   ⟨none, none, .x (.st 1 (.t 21) (.t 20))⟩])
 (.seq (.seq (.reg [
   ⟨(some 22), none, .f (.mv (.t 4))⟩,
   ⟨(some 23), none, .f (.mv (.t 6))⟩,
   ⟨(some 24), none, .f (.fadr 1 (.t 5))⟩,
   ⟨(some 25), none, .f (.ld (.t 24))⟩,
   ⟨(some 26), none, .x (.call 68 [(.t 22), (.t 23), (.c (.int .i64 0)), (.t 25)])⟩,
   ⟨(some 7), none, .f (.mv (.t 26))⟩])
 (.seq (.reg [
   ⟨(some 27), none, .f (.mv (.t 7))⟩,
   ⟨(some 28), none, .f (.bin .neq (.t 27) (.c (.int .i64 0)))⟩])
 (.cond (.t 28)
  (.seq (.reg [
    ⟨(some 29), none, .f (.build [(.int .i64 0), (.str [])] [])⟩,
    ⟨(some 30), none, .f (.mv (.t 7))⟩,
    ⟨none, none, .x (.st 2 (.t 2) (.t 29))⟩,
    ⟨(some 3), none, .f (.mv (.t 30))⟩])
  .ret)
  .skip)))
 (.seq (.reg [
   ⟨(some 31), none, .f (.ldA 2 (.t 5))⟩,
   ⟨none, none, .x (.st 2 (.t 2) (.t 31))⟩,
   ⟨(some 3), none, .f (.mv (.c (.int .i64 0)))⟩])
 .ret)))))))
theorem ok23 : fnComp Tryd.prog 23 = some (32, c23, [(.ldA 2 (.t 2)), (.mv (.t 3))]) := by kernel_rfl

/-- loop.example/g00003/laws.eqNameQuery -/
def c24 : CC :=
 (.seq (.reg [
   ⟨(some 2), none, .x (.box 29 2 (.t 0))⟩,
   ⟨(some 3), none, .x (.box 29 2 (.t 1))⟩,
   ⟨(some 4), none, .f (.mv (.c (.bool false)))⟩])
 (.seq (.seq (.reg [
   ⟨(some 5), none, .f (.fadr 0 (.t 2))⟩,
   ⟨(some 6), none, .f (.ld (.t 5))⟩,
   ⟨(some 7), none, .f (.fadr 0 (.t 3))⟩,
   ⟨(some 8), none, .f (.ld (.t 7))⟩,
   ⟨(some 9), none, .f (.bin .neq (.t 6) (.t 8))⟩])
 (.cond (.t 9)
  (.seq (.reg [
    ⟨(some 4), none, .f (.mv (.c (.bool false)))⟩])
  .ret)
  .skip))
 (.seq (.seq (.reg [
   ⟨(some 10), none, .f (.fadr 1 (.t 2))⟩,
   ⟨(some 11), none, .f (.ld (.t 10))⟩,
   ⟨(some 12), none, .f (.fadr 1 (.t 3))⟩,
   ⟨(some 13), none, .f (.ld (.t 12))⟩,
   ⟨(some 14), none, .f (.bin .neq (.t 11) (.t 13))⟩])
 (.cond (.t 14)
  (.seq (.reg [
    ⟨(some 4), none, .f (.mv (.c (.bool false)))⟩])
  .ret)
  .skip))
 (.seq (.reg [
   ⟨(some 4), none, .f (.mv (.c (.bool true)))⟩])
 .ret))))
theorem ok24 : fnComp Tryd.prog 24 = some (15, c24, [(.mv (.t 4))]) := by kernel_rfl

/-- loop.example/g00003/spec.l19Text -/
def c64 : CC :=
 (.seq (.reg [
   ⟨(some 4), none, .f (.mv (.c (.str [])))⟩,
   ⟨(some 5), none, .f (.mv (.c (.int .i64 0)))⟩])
 (.seq (.seq (.reg [
   ⟨(some 7), none, .f (.mv (.t 1))⟩,
   ⟨(some 8), none, .f (.bin .lss (.t 7) (.c (.int .i64 0)))⟩,
   ⟨(some 9), none, .f (.mv (.t 8))⟩,
   ⟨(some 10), (some (9, false)), .f (.mv (.t 1))⟩,
   ⟨(some 11), (some (9, false)), .f (.mv (.t 0))⟩,
   ⟨(some 12), (some (9, false)), .f (.len (.t 11))⟩,
   ⟨(some 13), (some (9, false)), .f (.bin .geq (.t 10) (.t 12))⟩,
   ⟨(some 14), none, .f (.pick (.t 9) (.c (.bool true)) (.t 13))⟩,
   ⟨(some 15), none, .f (.mv (.t 14))⟩,
   ⟨(some 16), (some (15, false)), .f (.mv (.t 1))⟩,
   ⟨(some 17), (some (15, false)), .f (.bin .add (.t 16) (.c (.int .i64 1)))⟩,
   ⟨(some 18), (some (15, false)), .f (.mv (.t 0))⟩,
   ⟨(some 19), (some (15, false)), .f (.mv (.t 1))⟩,
   ⟨(some 20), (some (15, false)), .f (.iadr 1 (.t 18) (.t 19))⟩,
   ⟨(some 21), (some (15, false)), .f (.ld (.t 20))⟩,
   ⟨(some 22), (some (15, false)), .f (.cvI .i64 (.t 21))⟩,
   ⟨(some 23), (some (15, false)), .f (.bin .add (.t 17) (.t 22))⟩,
   ⟨(some 24), (some (15, false)), .f (.mv (.t 0))⟩,
   ⟨(some 25), (some (15, false)), .f (.len (.t 24))⟩,
   ⟨(some 26), (some (15, false)), .f (.bin .gtr (.t 23) (.t 25))⟩,
   ⟨(some 27), none, .f (.pick (.t 15) (.c (.bool true)) (.t 26))⟩])
 (.cond (.t 27)
  (.seq (.reg [
    ⟨(some 4), none, .f (.mv (.c (.str [])))⟩,
    ⟨(some 5), none, .f (.mv (.c (.int .i64 (-1))))⟩])
  .ret)
  .skip))
 (.seq (.reg [
   ⟨(some 28), none, .f (.mv (.t 1))⟩,
   ⟨(some 29), none, .f (.bin .add (.t 28) (.c (.int .i64 1)))⟩,
   ⟨(some 30), none, .f (.mv (.t 0))⟩,
   ⟨(some 31), none, .f (.mv (.t 1))⟩,
   ⟨(some 32), none, .f (.iadr 1 (.t 30) (.t 31))⟩,
   ⟨(some 33), none, .f (.ld (.t 32))⟩,
   ⟨(some 34), none, .f (.cvI .i64 (.t 33))⟩,
   ⟨(some 35), none, .f (.bin .add (.t 29) (.t 34))⟩,
   ⟨(some 6), none, .f (.mv (.t 35))⟩])
 (.seq (.reg [
   ⟨(some 36), none, .f (.mv (.t 0))⟩,
   ⟨(some 37), none, .f (.mv (.t 1))⟩,
   ⟨(some 38), none, .f (.bin .add (.t 37) (.c (.int .i64 1)))⟩,
   ⟨(some 39), none, .f (.mv (.t 6))⟩,
   ⟨(some 40), none, .f (.slc 1 (.t 36) (some (.t 38)) (some (.t 39)) none)⟩,
   ⟨(some 41), none, .f (.b2s (.t 40))⟩,
   ⟨(some 42), none, .f (.mv (.t 6))⟩,
   ⟨(some 4), none, .f (.mv (.t 41))⟩,
   ⟨(some 5), none, .f (.mv (.t 42))⟩])
 .ret))))
theorem ok64 : fnComp Tryd.prog 64 = some (43, c64, [(.mv (.t 4)), (.mv (.t 5))]) := by kernel_rfl

/-- loop.example/g00003/spec.l03Num -/
def c65 : CC :=
 (.seq (.reg [
   ⟨(some 2), none, .f (.mv (.c (.int .i64 0)))⟩])
 (.seq (.reg [
   ⟨(some 3), none, .f (.mv (.c (.int .i64 0)))⟩])
 (.seq (.seq (.reg [
   ⟨(some 4), none, .f (.mv (.c (.int .i64 0)))⟩])
 (.block 0 (.loop (.seq (.seq (.reg [
     ⟨(some 5), none, .f (.mv (.t 4))⟩,
     ⟨(some 6), none, .f (.mv (.t 0))⟩,
     ⟨(some 7), none, .f (.len (.t 6))⟩,
     ⟨(some 8), none, .f (.bin .lss (.t 5) (.t 7))⟩])
   (.cond (.t 8)
    .skip
    (.exit 0)))
   (.seq (.block 1 (.reg [
      ⟨(some 11), none, .f (.mv (.t 3))⟩,
      ⟨(some 12), none, .f (.bin .mul (.t 11) (.c (.int .i64 256)))⟩,
      ⟨(some 13), none, .f (.mv (.t 0))⟩,
      ⟨(some 14), none, .f (.mv (.t 4))⟩,
      ⟨(some 15), none, .f (.iadr 1 (.t 13) (.t 14))⟩,
      ⟨(some 16), none, .f (.ld (.t 15))⟩,
      ⟨(some 17), none, .f (.cvI .i64 (.t 16))⟩,
      ⟨(some 18), none, .f (.bin .add (.t 12) (.t 17))⟩,
      ⟨(some 3), none, .f (.mv (.t 18))⟩]))
   (.reg [
     ⟨(some 9), none, .f (.mv (.t 4))⟩,
     ⟨(some 10), none, .f (.bin .add (.t 9) (.c (.int .i64 1)))⟩,
     ⟨(some 4), none, .f (.mv (.t 10))⟩]))))))
 (.seq (.reg [
   ⟨(some 19), none, .f (.mv (.t 3))⟩,
   ⟨(some 2), none, .f (.mv (.t 19))⟩])
 .ret))))
theorem ok65 : fnComp Tryd.prog 65 = some (20, c65, [(.mv (.t 2))]) := by kernel_rfl

/-- (*loop.example/g00003/impl.bites).num -/
def c66 : CC :=
 (.seq (.reg [
   ⟨(some 4), none, .f (.mv (.c (.int .i64 0)))⟩])
 (.seq (.reg [
   ⟨(some 5), none, .f (.mv (.t 0))⟩,
   ⟨(some 6), none, .f (.mv (.t 1))⟩,
   ⟨(some 7), none, .x (.call 67 [(.t 5), (.t 6)])⟩,
   ⟨(some 8), none, .x (.call 108 [(.t 7)])⟩,
   ⟨(some 4), none, .f (.mv (.t 8))⟩])
 .ret))
theorem ok66 : fnComp Tryd.prog 66 = some (9, c66, [(.mv (.t 4))]) := by kernel_rfl

/-- (*loop.example/g00003/impl.bites).take -/
def c67 : CC :=
 (.seq (.reg [
   ⟨(some 4), none, .f (.mv (.c .nilslice))⟩])
 (.seq (.seq (.reg [
   ⟨(some 6), none, .f (.mv (.t 1))⟩,
   ⟨(some 7), none, .f (.mv (.t 0))⟩,
   ⟨(some 8), none, .f (.nck (.t 7))⟩,
   ⟨(some 9), none, .f (.fadr 0 (.t 8))⟩,
   ⟨(some 10), none, .f (.ld (.t 9))⟩,
   ⟨(some 11), none, .f (.len (.t 10))⟩,
   ⟨(some 12), none, .f (.bin .gtr (.t 6) (.t 11))⟩])
 (.cond (.t 12)
  (.seq (.reg [
    ⟨(some 13), none, .f (.mv (.t 0))⟩,
    ⟨(some 14), none, .f (.nck (.t 13))⟩,
    ⟨(some 15), none, .f (.fadr 1 (.t 14))⟩,
    ⟨none, none, .x (.st 1 (.t 15) (.c (.bool true)))⟩])
  (.seq (.reg [
    ⟨(some 16), none, .f (.mv (.t 0))⟩,
    ⟨(some 17), none, .f (.nck (.t 16))⟩,
    ⟨(some 18), none, .f (.fadr 0 (.t 17))⟩,
    ⟨none, none, .x (.st 1 (.t 18) (.c .nilslice))⟩])
  (.seq (.reg [
    ⟨(some 19), none, .f (.mv (.t 1))⟩,
    ⟨(some 20), none, .f (.mm false (.t 19) (.c (.int .i64 8)))⟩,
    ⟨(some 21), none, .x (.mks 5 1 1 [(.int .u8 0)] (.t 20) (.t 20))⟩,
    ⟨(some 4), none, .f (.mv (.t 21))⟩])
  .ret)))
  .skip))
 (.seq (.reg [
   ⟨(some 22), none, .f (.mv (.t 0))⟩,
   ⟨(some 23), none, .f (.nck (.t 22))⟩,
   ⟨(some 24), none, .f (.fadr 0 (.t 23))⟩,
   ⟨(some 25), none, .f (.ld (.t 24))⟩,
   ⟨(some 26), none, .f (.mv (.t 1))⟩,
   ⟨(some 27), none, .f (.slc 1 (.t 25) none (some (.t 26)) none)⟩,
   ⟨(some 5), none, .f (.mv (.t 27))⟩])
 (.seq (.reg [
   ⟨(some 28), none, .f (.mv (.t 0))⟩,
   ⟨(some 29), none, .f (.mv (.t 0))⟩,
   ⟨(some 30), none, .f (.nck (.t 29))⟩,
   ⟨(some 31), none, .f (.fadr 0 (.t 30))⟩,
   ⟨(some 32), none, .f (.ld (.t 31))⟩,
   ⟨(some 33), none, .f (.mv (.t 1))⟩,
   ⟨(some 34), none, .f (.slc 1 (.t 32) (some (.t 33)) none none)⟩,
   ⟨(some 35), none, .f (.nck (.t 28))⟩,
   ⟨(some 36), none, .f (.fadr 0 (.t 35))⟩,
   ⟨none, none, .x (.st 1 (.t 36) (.t 34))⟩])
 (.seq (.reg [
   ⟨(some 37), none, .f (.mv (.t 5))⟩,
   ⟨(some 4), none, .f (.mv (.t 37))⟩])
 .ret)))))
theorem ok67 : fnComp Tryd.prog 67 = some (38, c67, [(.mv (.t 4))]) := by kernel_rfl

/-- (*loop.example/g00003/impl.bites).code -/
def c68 : CC :=
 (.seq (.reg [
   ⟨(some 8), none, .f (.mv (.c (.int .i64 0)))⟩])
 (.seq (.block 0 (.seq (.reg [
    ⟨(some 10), none, .f (.mv (.t 0))⟩,
    ⟨(some 11), none, .f (.nck (.t 10))⟩,
    ⟨(some 12), none, .f (.fadr 1 (.t 11))⟩,
    ⟨(some 13), none, .f (.ld (.t 12))⟩,
    ⟨(some 9), none, .f (.mv (.t 13))⟩])
  (.cond (.t 9)
   (.seq (.reg [
     ⟨(some 8), none, .f (.mv (.c (.int .i64 2)))⟩])
   .ret)
   (.seq (.reg [
     ⟨(some 15), none, .f (.mv (.t 0))⟩,
     ⟨(some 16), none, .f (.nck (.t 15))⟩,
     ⟨(some 17), none, .f (.fadr 0 (.t 16))⟩,
     ⟨(some 18), none, .f (.ld (.t 17))⟩,
     ⟨(some 19), none, .f (.len (.t 18))⟩,
     ⟨(some 20), none, .f (.bin .gtr (.t 19) (.c (.int .i64 0)))⟩,
     ⟨(some 14), none, .f (.mv (.t 20))⟩])
   (.cond (.t 14)
    (.seq (.reg [
      ⟨(some 8), none, .f (.mv (.c (.int .i64 5)))⟩])
    .ret)
    (.seq (.reg [
      ⟨(some 22), none, .f (.mv (.t 1))⟩,
      ⟨(some 23), none, .f (.mv (.t 2))⟩,
      ⟨(some 24), none, .f (.bin .neq (.t 22) (.t 23))⟩,
      ⟨(some 21), none, .f (.mv (.t 24))⟩])
    (.cond (.t 21)
     (.seq (.reg [
       ⟨(some 8), none, .f (.mv (.c (.int .i64 9)))⟩])
     .ret)
     (.seq (.reg [
       ⟨(some 26), none, .f (.mv (.t 3))⟩,
       ⟨(some 27), none, .x (.call 13 [(.t 26)])⟩,
       ⟨(some 28), none, .f (.un .not (.t 27))⟩,
       ⟨(some 25), none, .f (.mv (.t 28))⟩])
     (.cond (.t 25)
      (.seq (.reg [
        ⟨(some 8), none, .f (.mv (.c (.int .i64 6)))⟩])
      .ret)
      .skip)))))))))
 (.seq (.reg [
   ⟨(some 8), none, .f (.mv (.c (.int .i64 0)))⟩])
 .ret)))
theorem ok68 : fnComp Tryd.prog 68 = some (29, c68, [(.mv (.t 8))]) := by kernel_rfl

/-- loop.example/g00003/impl.get -/
def c108 : CC :=
 (.seq (.reg [
   ⟨(some 2), none, .f (.mv (.c (.int .i64 0)))⟩])
 (.seq (.reg [
   ⟨(some 3), none, .f (.mv (.c (.int .i64 0)))⟩])
 (.seq (.seq (.reg [
   ⟨(some 6), none, .f (.mv (.t 0))⟩,
   ⟨(some 7), none, .f (.len (.t 6))⟩,
   ⟨(some 8), none, .f (.mv (.c (.int .i64 0)))⟩])
 (.block 0 (.loop (.seq (.reg [
     ⟨(some 9), none, .f (.bin .lss (.t 8) (.t 7))⟩])
   (.seq (.cond (.t 9)
    .skip
    (.exit 0))
   (.seq (.block 1 (.seq (.reg [
      ⟨(some 10), none, .f (.iadr 1 (.t 6) (.t 8))⟩,
      ⟨(some 11), none, .f (.ld (.t 10))⟩,
      ⟨(some 5), none, .f (.mv (.t 11))⟩])
    (.reg [
      ⟨(some 12), none, .f (.mv (.t 3))⟩,
      ⟨(some 13), none, .f (.bin .shl (.t 12) (.c (.int .u64 8)))⟩,
      ⟨(some 14), none, .f (.mv (.t 5))⟩,
      ⟨(some 15), none, .f (.cvI .i64 (.t 14))⟩,
      ⟨(some 16), none, .f (.bin .or (.t 13) (.t 15))⟩,
      ⟨(some 3), none, .f (.mv (.t 16))⟩])))
   (.reg [
     ⟨(some 17), none, .f (.bin .add (.t 8) (.c (.int .i64 1)))⟩,
     ⟨(some 8), none, .f (.mv (.t 17))⟩])))))))
 (.seq (.reg [
   ⟨(some 18), none, .f (.mv (.t 3))⟩,
   ⟨(some 2), none, .f (.mv (.t 18))⟩])
 .ret))))
theorem ok108 : fnComp Tryd.prog 108 = some (19, c108, [(.mv (.t 2))]) := by kernel_rfl

end Go.Proofs.YtcmcfmgabafljaaDoor

namespace Go.Proofs.YtcmcfmgabafljaaDoor
open Go Go.IW
/-- loop.example/g00003/laws.FnExactEncodeReply -/
def c6 : CC :=
 (.seq (.reg [
   ⟨(some 1), none, .x (.box 41 5 (.t 0))⟩,
   ⟨(some 2), none, .f (.mv (.c (.bool false)))⟩])
 (.seq (.reg [
   ⟨(some 3), none, .f (.mv (.c (.int .i64 1048576)))⟩])
 (.seq (.reg [
   ⟨(some 14), none, .f (.ldA 5 (.t 1))⟩,
   ⟨(some 15), none, .f (.mv (.t 3))⟩,
   ⟨(some 16), none, .x (.call 25 [(.t 14), (.t 15)])⟩,
   ⟨(some 3), none, .f (.mv (.t 16))⟩])
 (.seq (.seq (.reg [
   ⟨(some 17), none, .f (.mv (.t 3))⟩,
   ⟨(some 18), none, .f (.bin .lss (.t 17) (.c (.int .i64 0)))⟩])
 (.cond (.t 18)
  (.seq (.reg [
    ⟨(some 2), none, .f (.mv (.c (.bool true)))⟩])
  .ret)
  .skip))
 (.seq (.reg [
   ⟨(some 20), none, .f (.ldA 5 (.t 1))⟩,
   ⟨(some 21), none, .x (.call 27 [(.t 20)])⟩,
   ⟨(some 22), none, .x (.call 26 [(.t 21)])⟩,
   ⟨(some 19), none, .f (.mv (.t 22))⟩,
   ⟨(some 23), none, .f (.ext 0 (.t 19))⟩,
   ⟨(some 24), none, .f (.ext 1 (.t 19))⟩,
   ⟨(some 4), none, .f (.mv (.t 23))⟩,
   ⟨(some 5), none, .f (.mv (.t 24))⟩])
 (.seq (.reg [
   ⟨(some 25), none, .f (.ldA 5 (.t 1))⟩,
   ⟨(some 26), none, .x (.call 27 [(.t 25)])⟩,
   ⟨(some 6), none, .x (.zero 44 5 [(.int .i64 0), (.int .i64 0), (.int .i64 0), (.str []), .nilslice])⟩,
   ⟨none, none, .x (.st 5 (.t 6) (.t 26))⟩])
 (.seq (.reg [
   ⟨(some 28), none, .f (.ldA 5 (.t 6))⟩,
   ⟨(some 29), none, .x (.call 28 [(.t 28)])⟩,
   ⟨(some 27), none, .f (.mv (.t 29))⟩,
   ⟨(some 30), none, .f (.ext 0 (.t 27))⟩,
   ⟨(some 31), none, .f (.ext 1 (.t 27))⟩,
   ⟨(some 7), none, .f (.mv (.t 30))⟩,
   ⟨(some 8), none, .f (.mv (.t 31))⟩])
 (.seq (.seq (.reg [
   ⟨(some 32), none, .f (.mv (.t 7))⟩,
   ⟨(some 33), none, .f (.mv (.t 4))⟩,
   ⟨(some 34), none, .x (.call 18 [(.t 32), (.t 33)])⟩,
   ⟨(some 35), none, .f (.un .not (.t 34))⟩,
   ⟨(some 36), none, .f (.mv (.t 35))⟩,
   ⟨(some 37), (some (36, false)), .f (.mv (.t 8))⟩,
   ⟨(some 38), (some (36, false)), .f (.mv (.t 5))⟩,
   ⟨(some 39), (some (36, false)), .f (.bin .neq (.t 37) (.t 38))⟩,
   ⟨(some 40), none, .f (.pick (.t 36) (.c (.bool true)) (.t 39))⟩])
 (.cond (.t 40)
  (.seq (.reg [
    ⟨(some 2), none, .f (.mv (.c (.bool false)))⟩])
  .ret)
  .skip))
 (.seq (.seq (.dreg [
   ⟨(some 41), none, .f (.ldA 5 (.t 6))⟩,
   ⟨(some 42), none, .f (.ldA 5 (.t 1))⟩,
   ⟨(some 43), none, .x (.call 27 [(.t 42)])⟩,
   ⟨(some 44), none, .x (.call 29 [(.t 41), (.t 43)])⟩,
   ⟨(some 45), none, .f (.un .not (.t 44))⟩]
   [false, false, true, true, false] [[], [], [1], [0, 2, 1], [3, 0, 2, 1]] [0, 1, 2, 3, 4])
 (.cond (.t 45)
  (.seq (.reg [
    ⟨(some 2), none, .f (.mv (.c (.bool false)))⟩])
  .ret)
  .skip))
 (.seq (.reg [
   ⟨(some 9), none, .f (.mv (.c (.int .i64 1)))⟩])
 (.seq (.reg [
   ⟨(some 46), none, .f (.ldA 5 (.t 6))⟩,
   ⟨(some 47), none, .f (.mv (.t 9))⟩,
   ⟨(some 48), none, .x (.call 30 [(.t 46), (.t 47)])⟩,
   ⟨(some 9), none, .f (.mv (.t 48))⟩])
 (.seq (.seq (.reg [
   ⟨(some 49), none, .f (.mv (.t 9))⟩,
   ⟨(some 50), none, .f (.bin .lss (.t 49) (.c (.int .i64 0)))⟩,
   ⟨(some 51), none, .f (.mv (.t 50))⟩,
   ⟨(some 52), (some (51, false)), .f (.mv (.t 7))⟩,
   ⟨(some 53), (some (51, false)), .f (.mv (.t 4))⟩,
   ⟨(some 54), (some (51, false)), .x (.call 18 [(.t 52), (.t 53)])⟩,
   ⟨(some 55), (some (51, false)), .f (.un .not (.t 54))⟩,
   ⟨(some 56), none, .f (.pick (.t 51) (.c (.bool true)) (.t 55))⟩,
   ⟨(some 57), none, .f (.mv (.t 56))⟩,
   ⟨(some 58), (some (57, false)), .f (.mv (.t 8))⟩,
   ⟨(some 59), (some (57, false)), .f (.mv (.t 5))⟩,
   ⟨(some 60), (some (57, false)), .f (.bin .neq (.t 58) (.t 59))⟩,
   ⟨(some 61), none, .f (.pick (.t 57) (.c (.bool true)) (.t 60))⟩])
 (.cond (.t 61)
  (.seq (.reg [
    ⟨(some 2), none, .f (.mv (.c (.bool false)))⟩])
  .ret)
  .skip))
 (.seq (.reg [
   ⟨(some 10), none, .f (.mv (.c (.int .i64 1)))⟩])
 (.seq (.reg [
   ⟨(some 62), none, .f (.mv (.t 7))⟩,
   ⟨(some 63), none, .f (.mv (.t 10))⟩,
   ⟨(some 64), none, .x (.call 19 [(.t 62), (.t 63)])⟩,
   ⟨(some 10), none, .f (.mv (.t 64))⟩])
 (.seq (.reg [
   ⟨(some 11), none, .f (.mv (.c (.int .i64 1)))⟩])
 (.seq (.reg [
   ⟨(some 65), none, .f (.mv (.t 7))⟩,
   ⟨(some 66), none, .f (.mv (.t 11))⟩,
   ⟨(some 67), none, .x (.call 20 [(.t 65), (.t 66)])⟩,
   ⟨(some 11), none, .f (.mv (.t 67))⟩])
 (.seq (.seq (.reg [
   ⟨(some 68), none, .f (.mv (.t 11))⟩,
   ⟨(some 69), none, .f (.bin .lss (.t 68) (.c (.int .i64 0)))⟩])
 (.cond (.t 69)
  (.seq (.reg [
    ⟨(some 2), none, .f (.mv (.c (.bool false)))⟩])
  .ret)
  .skip))
 (.seq (.seq (.reg [
   ⟨(some 70), none, .f (.mv (.t 11))⟩,
   ⟨(some 71), none, .f (.mv (.t 10))⟩,
   ⟨(some 72), none, .f (.bin .neq (.t 70) (.t 71))⟩])
 (.cond (.t 72)
  (.seq (.reg [
    ⟨(some 2), none, .f (.mv (.c (.bool false)))⟩])
  .ret)
  .skip))
 (.seq (.reg [
   ⟨(some 74), none, .f (.ldA 5 (.t 1))⟩,
   ⟨(some 75), none, .x (.call 27 [(.t 74)])⟩,
   ⟨(some 76), none, .x (.call 28 [(.t 75)])⟩,
   ⟨(some 73), none, .f (.mv (.t 76))⟩,
   ⟨(some 77), none, .f (.ext 0 (.t 73))⟩,
   ⟨(some 78), none, .f (.ext 1 (.t 73))⟩,
   ⟨(some 12), none, .f (.mv (.t 77))⟩,
   ⟨(some 13), none, .f (.mv (.t 78))⟩])
 (.seq (.seq (.reg [
   ⟨(some 79), none, .f (.mv (.t 12))⟩,
   ⟨(some 80), none, .f (.mv (.t 4))⟩,
   ⟨(some 81), none, .x (.call 18 [(.t 79), (.t 80)])⟩,
   ⟨(some 82), none, .f (.un .not (.t 81))⟩,
   ⟨(some 83), none, .f (.mv (.t 82))⟩,
   ⟨(some 84), (some (83, false)), .f (.mv (.t 13))⟩,
   ⟨(some 85), (some (83, false)), .f (.mv (.t 5))⟩,
   ⟨(some 86), (some (83, false)), .f (.bin .neq (.t 84) (.t 85))⟩,
   ⟨(some 87), none, .f (.pick (.t 83) (.c (.bool true)) (.t 86))⟩])
 (.cond (.t 87)
  (.seq (.reg [
    ⟨(some 2), none, .f (.mv (.c (.bool false)))⟩])
  .ret)
  .skip))
 (.seq (.reg [
   ⟨(some 11), none, .f (.mv (.c (.int .i64 1)))⟩])
 (.seq (.reg [
   ⟨(some 88), none, .f (.mv (.t 7))⟩,
   ⟨(some 89), none, .f (.mv (.t 11))⟩,
   ⟨(some 90), none, .x (.call 20 [(.t 88), (.t 89)])⟩,
   ⟨(some 11), none, .f (.mv (.t 90))⟩])
 (.seq (.seq (.reg [
   ⟨(some 91), none, .f (.mv (.t 11))⟩,
   ⟨(some 92), none, .f (.bin .lss (.t 91) (.c (.int .i64 0)))⟩])
 (.cond (.t 92)
  (.seq (.reg [
    ⟨(some 2), none, .f (.mv (.c (.bool false)))⟩])
  .ret)
  .skip))
 (.seq (.seq (.reg [
   ⟨(some 93), none, .f (.mv (.t 11))⟩,
   ⟨(some 94), none, .f (.mv (.t 10))⟩,
   ⟨(some 95), none, .f (.bin .neq (.t 93) (.t 94))⟩])
 (.cond (.t 95)
  (.seq (.reg [
    ⟨(some 2), none, .f (.mv (.c (.bool false)))⟩])
  .ret)
  .skip))
 (.seq (.reg [
   ⟨(some 2), none, .f (.mv (.c (.bool true)))⟩])
 .ret)))))))))))))))))))))))))
theorem ok6 : fnComp Tryd.prog 6 = some (96, c6, [(.mv (.t 2))]) := by kernel_rfl

/-- loop.example/g00003/laws.szNameReply -/
def c25 : CC :=
 (.seq (.reg [
   ⟨(some 2), none, .x (.box 41 5 (.t 0))⟩,
   ⟨(some 4), none, .f (.mv (.c (.int .i64 0)))⟩])
 (.seq (.reg [
   ⟨(some 5), none, .f (.mv (.t 1))⟩,
   ⟨(some 6), none, .f (.fadr 3 (.t 2))⟩,
   ⟨(some 7), none, .f (.ld (.t 6))⟩,
   ⟨(some 8), none, .f (.lenS (.t 7))⟩,
   ⟨(some 9), none, .f (.bin .sub (.t 5) (.t 8))⟩,
   ⟨(some 1), none, .f (.mv (.t 9))⟩])
 (.seq (.seq (.reg [
   ⟨(some 10), none, .f (.mv (.t 1))⟩,
   ⟨(some 11), none, .f (.bin .lss (.t 10) (.c (.int .i64 0)))⟩])
 (.cond (.t 11)
  (.seq (.reg [
    ⟨(some 4), none, .f (.mv (.c (.int .i64 (-1))))⟩])
  .ret)
  .skip))
 (.seq (.reg [
   ⟨(some 12), none, .f (.fadr 4 (.t 2))⟩,
   ⟨(some 13), none, .f (.ld (.t 12))⟩,
   ⟨(some 14), none, .f (.mv (.t 1))⟩,
   ⟨(some 15), none, .x (.call 69 [(.t 13), (.t 14)])⟩,
   ⟨(some 1), none, .f (.mv (.t 15))⟩])
 (.seq (.seq (.reg [
   ⟨(some 16), none, .f (.mv (.t 1))⟩,
   ⟨(some 17), none, .f (.bin .lss (.t 16) (.c (.int .i64 0)))⟩])
 (.cond (.t 17)
  (.seq (.reg [
    ⟨(some 4), none, .f (.mv (.c (.int .i64 (-1))))⟩])
  .ret)
  .skip))
 (.seq (.reg [
   ⟨(some 18), none, .f (.mv (.t 1))⟩,
   ⟨(some 4), none, .f (.mv (.t 18))⟩])
 .ret))))))
theorem ok25 : fnComp Tryd.prog 25 = some (19, c25, [(.mv (.t 4))]) := by kernel_rfl

/-- loop.example/g00003/spec.EncodeReply -/
def c26 : CC :=
 (.seq (.reg [
   ⟨(some 1), none, .x (.box 44 5 (.t 0))⟩,
   ⟨(some 2), none, .f (.mv (.c .nilslice))⟩,
   ⟨(some 3), none, .f (.mv (.c (.int .i64 0)))⟩])
 (.seq (.seq (.reg [
   ⟨(some 6), none, .f (.ldA 5 (.t 1))⟩,
   ⟨(some 7), none, .x (.call 70 [(.t 6)])⟩,
   ⟨(some 8), none, .f (.un .not (.t 7))⟩])
 (.cond (.t 8)
  (.seq (.reg [
    ⟨(some 2), none, .f (.mv (.c .nilslice))⟩,
    ⟨(some 3), none, .f (.mv (.c (.int .i64 1)))⟩])
  .ret)
  .skip))
 (.seq (.treg [
   ⟨(some 9), none, .f (.fadr 0 (.t 1))⟩,
   ⟨(some 10), none, .f (.ld (.t 9))⟩,
   ⟨(some 11), none, .x (.call 62 [(.t 10), (.c (.int .i64 2))])⟩,
   ⟨(some 12), none, .f (.fadr 1 (.t 1))⟩,
   ⟨(some 13), none, .f (.ld (.t 12))⟩,
   ⟨(some 14), none, .f (.cvI .u8 (.t 13))⟩,
   ⟨(some 15), none, .x (.bslice 5 1 [(.int .u8 0)] 2 [(0, (.c (.int .u8 1))), (1, (.t 14))])⟩,
   ⟨(some 16), none, .x (.call 61 [(.t 11), (.t 15)])⟩,
   ⟨(some 4), none, .f (.mv (.t 16))⟩]
   [[], [0], [1, 0], [], [3], [4, 3], [5, 4, 3], [2, 1, 0, 6, 5, 4, 3], [7, 2, 1, 0, 6, 5, 4, 3]] (.fl 0 (.fl 1 (.fl 3 (.fl 4 (.fl 5 (.br 2 (.br 6 (.br 7 (.fl 8 .fin) .stop) .stop) (.br 6 (.br 2 (.br 7 (.fl 8 .fin) .stop) .stop) .stop))))))))
 (.seq (.treg [
   ⟨(some 17), none, .f (.mv (.t 4))⟩,
   ⟨(some 18), none, .f (.fadr 2 (.t 1))⟩,
   ⟨(some 19), none, .f (.ld (.t 18))⟩,
   ⟨(some 20), none, .x (.call 62 [(.t 19), (.c (.int .i64 4))])⟩,
   ⟨(some 21), none, .x (.call 61 [(.t 17), (.t 20)])⟩,
   ⟨(some 22), none, .f (.fadr 3 (.t 1))⟩,
   ⟨(some 23), none, .f (.ld (.t 22))⟩,
   ⟨(some 24), none, .f (.lenS (.t 23))⟩,
   ⟨(some 25), none, .f (.cvI .u8 (.t 24))⟩,
   ⟨(some 26), none, .x (.bslice 5 1 [(.int .u8 0)] 1 [(0, (.t 25))])⟩,
   ⟨(some 27), none, .x (.call 61 [(.t 21), (.t 26)])⟩,
   ⟨(some 4), none, .f (.mv (.t 27))⟩]
   [[], [], [1], [2, 1], [0, 3, 2, 1], [], [5], [6, 5], [7, 6, 5], [8, 7, 6, 5], [4, 0, 3, 2, 1, 9, 8, 7, 6, 5], [10, 4, 0, 3, 2, 1, 9, 8, 7, 6, 5]] (.fl 0 (.fl 1 (.fl 2 (.fl 5 (.fl 6 (.fl 7 (.fl 8 (.br 3 (.br 4 (.br 9 (.br 10 (.br 11 .fin .stop) .stop) .stop) (.br 9 (.br 4 (.br 10 (.br 11 .fin .stop) .stop) .stop) .stop)) (.br 9 (.br 3 (.br 4 (.br 10 (.br 11 .fin .stop) .stop) .stop) .stop) .stop))))))))))
 (.seq (.treg [
   ⟨(some 28), none, .f (.mv (.t 4))⟩,
   ⟨(some 29), none, .f (.fadr 3 (.t 1))⟩,
   ⟨(some 30), none, .f (.ld (.t 29))⟩,
   ⟨(some 31), none, .x (.s2b 5 (.t 30))⟩,
   ⟨(some 32), none, .x (.call 61 [(.t 28), (.t 31)])⟩,
   ⟨(some 33), none, .f (.fadr 4 (.t 1))⟩,
   ⟨(some 34), none, .f (.ld (.t 33))⟩,
   ⟨(some 35), none, .f (.len (.t 34))⟩,
   ⟨(some 36), none, .f (.cvI .u8 (.t 35))⟩,
   ⟨(some 37), none, .x (.bslice 5 1 [(.int .u8 0)] 1 [(0, (.t 36))])⟩,
   ⟨(some 38), none, .x (.call 61 [(.t 32), (.t 37)])⟩,
   ⟨(some 4), none, .f (.mv (.t 38))⟩]
   [[], [], [1], [2, 1], [0, 3, 2, 1], [], [5], [6, 5], [7, 6, 5], [8, 7, 6, 5], [4, 0, 3, 2, 1, 9, 8, 7, 6, 5], [10, 4, 0, 3, 2, 1, 9, 8, 7, 6, 5]] (.fl 0 (.fl 1 (.fl 2 (.fl 5 (.fl 6 (.fl 7 (.fl 8 (.br 3 (.br 4 (.br 9 (.br 10 (.br 11 .fin .stop) .stop) .stop) (.br 9 (.br 4 (.br 10 (.br 11 .fin .stop) .stop) .stop) .stop)) (.br 9 (.br 3 (.br 4 (.br 10 (.br 11 .fin .stop) .stop) .stop) .stop) .stop))))))))))
 (.seq (.seq (.reg [
   ⟨(some 5), none, .f (.mv (.c (.int .i64 0)))⟩])
 (.block 0 (.loop (.seq (.seq (.reg [
     ⟨(some 39), none, .f (.mv (.t 5))⟩,
     ⟨(some 40), none, .f (.fadr 4 (.t 1))⟩,
     ⟨(some 41), none, .f (.ld (.t 40))⟩,
     ⟨(some 42), none, .f (.len (.t 41))⟩,
     ⟨(some 43), none, .f (.bin .lss (.t 39) (.t 42))⟩])
   (.cond (.t 43)
    .skip
    (.exit 0)))
   (.seq (.block 1 (.reg [
      ⟨(some 46), none, .f (.mv (.t 4))⟩,
      ⟨(some 47), none, .f (.fadr 4 (.t 1))⟩,
      ⟨(some 48), none, .f (.ld (.t 47))⟩,
      ⟨(some 49), none, .f (.mv (.t 5))⟩,
      ⟨(some 50), none, .f (.iadr 1 (.t 48) (.t 49))⟩,
      ⟨(some 51), none, .f (.ld (.t 50))⟩,
      ⟨(some 52), none, .x (.call 62 [(.t 51), (.c (.int .i64 4))])⟩,
      ⟨(some 53), none, .x (.call 61 [(.t 46), (.t 52)])⟩,
      ⟨(some 4), none, .f (.mv (.t 53))⟩]))
   (.reg [
     ⟨(some 44), none, .f (.mv (.t 5))⟩,
     ⟨(some 45), none, .f (.bin .add (.t 44) (.c (.int .i64 1)))⟩,
     ⟨(some 5), none, .f (.mv (.t 45))⟩]))))))
 (.seq (.reg [
   ⟨(some 54), none, .f (.mv (.t 4))⟩,
   ⟨(some 2), none, .f (.mv (.t 54))⟩,
   ⟨(some 3), none, .f (.mv (.c (.int .i64 0)))⟩])
 .ret)))))))
theorem ok26 : fnComp Tryd.prog 26 = some (55, c26, [(.mv (.t 2)), (.mv (.t 3))]) := by kernel_rfl

/-- loop.example/g00003/laws.toNameReply -/
def c27 : CC :=
 (.seq (.reg [
   ⟨(some 1), none, .x (.box 41 5 (.t 0))⟩,
   ⟨(some 2), none, .x (.zero 44 5 [(.int .i64 0), (.int .i64 0), (.int .i64 0), (.str []), .nilslice])⟩])
 (.seq (.reg [
   ⟨(some 3), none, .x (.zero 44 5 [(.int .i64 0), (.int .i64 0), (.int .i64 0), (.str []), .nilslice])⟩])
 (.seq (.reg [
   ⟨(some 4), none, .f (.fadr 0 (.t 1))⟩,
   ⟨(some 5), none, .f (.ld (.t 4))⟩,
   ⟨(some 6), none, .f (.fadr 0 (.t 3))⟩,
   ⟨none, none, .x (.st 1 (.t 6) (.t 5))⟩])
 (.seq (.reg [
   ⟨(some 7), none, .f (.fadr 1 (.t 1))⟩,
   ⟨(some 8), none, .f (.ld (.t 7))⟩,
   ⟨(some 9), none, .f (.fadr 1 (.t 3))⟩,
   ⟨none, none, .x (.st 1 (.t 9) (.t 8))⟩])
 (.seq (.reg [
   ⟨(some 10), none, .f (.fadr 2 (.t 1))⟩,
   ⟨(some 11), none, .f (.ld (.t 10))⟩,
   ⟨(some 12), none, .f (.fadr 2 (.t 3))⟩,
   ⟨none, none, .x (.st 1 (.t 12) (.t 11))⟩])
 (.seq (.reg [
   ⟨(some 13), none, .f (.fadr 3 (.t 1))⟩,
   ⟨(some 14), none, .f (.ld (.t 13))⟩,
   ⟨(some 15), none, .f (.fadr 3 (.t 3))⟩,
   ⟨none, none, .x (.st 1 (.t 15) (.t 14))⟩])
 (.seq (.reg [
   ⟨(some 16), none, .f (.fadr 4 (.t 1))⟩,
   ⟨(some 17), none, .f (.ld (.t 16))⟩,
   ⟨(some 18), none, .x (.call 71 [(.t 17)])⟩,
   ⟨(some 19), none, .f (.fadr 4 (.t 3))⟩,
   ⟨none, none, .x (.st 1 (.t 19) (.t 18))⟩])
 (.seq (.reg [
   ⟨(some 20), none, .f (.ldA 5 (.t 3))⟩,
   ⟨none, none, .x (.st 5 (.t 2) (.t 20))⟩])
 .ret))))))))
theorem ok27 : fnComp Tryd.prog 27 = some (21, c27, [(.ldA 5 (.t 2))]) := by kernel_rfl

/-- loop.example/g00003/impl.EncodeReply -/
def c28 : CC :=
 (.seq (.reg [
   ⟨(some 1), none, .x (.box 44 5 (.t 0))⟩,
   ⟨(some 2), none, .f (.mv (.c .nilslice))⟩,
   ⟨(some 3), none, .f (.mv (.c (.int .i64 0)))⟩])
 (.seq (.seq (.reg [
   ⟨(some 7), none, .f (.ldA 5 (.t 1))⟩,
   ⟨(some 8), none, .x (.call 72 [(.t 7)])⟩,
   ⟨(some 9), none, .f (.un .not (.t 8))⟩,
   ⟨(some 10), none, .f (.mv (.t 9))⟩,
   ⟨(some 11), (some (10, false)), .f (.fadr 3 (.t 1))⟩,
   ⟨(some 12), (some (10, false)), .f (.ld (.t 11))⟩,
   ⟨(some 13), (some (10, false)), .x (.call 13 [(.t 12)])⟩,
   ⟨(some 14), (some (10, false)), .f (.un .not (.t 13))⟩,
   ⟨(some 15), none, .f (.pick (.t 10) (.c (.bool true)) (.t 14))⟩])
 (.cond (.t 15)
  (.seq (.reg [
    ⟨(some 2), none, .f (.mv (.c .nilslice))⟩,
    ⟨(some 3), none, .f (.mv (.c (.int .i64 1)))⟩])
  .ret)
  .skip))
 (.seq (.treg [
   ⟨(some 16), none, .f (.fadr 0 (.t 1))⟩,
   ⟨(some 17), none, .f (.ld (.t 16))⟩,
   ⟨(some 18), none, .x (.call 63 [(.c .nilslice), (.c (.int .i64 2)), (.t 17)])⟩,
   ⟨(some 19), none, .f (.fadr 1 (.t 1))⟩,
   ⟨(some 20), none, .f (.ld (.t 19))⟩,
   ⟨(some 21), none, .f (.cvI .u8 (.t 20))⟩,
   ⟨(some 22), none, .x (.bslice 5 1 [(.int .u8 0)] 2 [(0, (.c (.int .u8 1))), (1, (.t 21))])⟩,
   ⟨(some 23), none, .x (.app 5 1 1 (.t 18) (.t 22))⟩,
   ⟨(some 24), none, .f (.fadr 2 (.t 1))⟩,
   ⟨(some 25), none, .f (.ld (.t 24))⟩,
   ⟨(some 26), none, .x (.call 63 [(.t 23), (.c (.int .i64 4)), (.t 25)])⟩,
   ⟨(some 4), none, .f (.mv (.t 26))⟩]
   [[], [0], [1, 0], [], [3], [4, 3], [5, 4, 3], [2, 1, 0, 6, 5, 4, 3], [], [8], [7, 2, 1, 0, 6, 5, 4, 3, 9, 8], [10, 7, 2, 1, 0, 6, 5, 4, 3, 9, 8]] (.fl 0 (.fl 1 (.fl 3 (.fl 4 (.fl 5 (.fl 8 (.fl 9 (.br 2 (.br 6 (.br 7 (.br 10 (.fl 11 .fin) .stop) .stop) .stop) (.br 6 (.br 2 (.br 7 (.br 10 (.fl 11 .fin) .stop) .stop) .stop) .stop))))))))))
 (.seq (.dreg [
   ⟨(some 27), none, .f (.mv (.t 4))⟩,
   ⟨(some 28), none, .f (.fadr 3 (.t 1))⟩,
   ⟨(some 29), none, .f (.ld (.t 28))⟩,
   ⟨(some 30), none, .f (.lenS (.t 29))⟩,
   ⟨(some 31), none, .f (.cvI .u8 (.t 30))⟩,
   ⟨(some 32), none, .x (.bslice 5 1 [(.int .u8 0)] 1 [(0, (.t 31))])⟩,
   ⟨(some 33), none, .x (.app 5 1 1 (.t 27) (.t 32))⟩,
   ⟨(some 34), none, .f (.fadr 3 (.t 1))⟩,
   ⟨(some 35), none, .f (.ld (.t 34))⟩,
   ⟨(some 36), none, .x (.appS 5 1 (.t 33) (.t 35))⟩,
   ⟨(some 4), none, .f (.mv (.t 36))⟩]
   [false, false, false, false, false, true, true, false, false, true, true] [[], [], [1], [2, 1], [3, 2, 1], [4, 3, 2, 1], [0, 5, 4, 3, 2, 1], [], [7], [6, 0, 5, 4, 3, 2, 1, 8, 7], [9, 6, 0, 5, 4, 3, 2, 1, 8, 7]] [0, 1, 2, 3, 4, 7, 8, 5, 6, 9, 10])
 (.seq (.reg [
   ⟨(some 37), none, .f (.mv (.t 4))⟩,
   ⟨(some 38), none, .f (.fadr 4 (.t 1))⟩,
   ⟨(some 39), none, .f (.ld (.t 38))⟩,
   ⟨(some 40), none, .f (.len (.t 39))⟩,
   ⟨(some 41), none, .f (.cvI .u8 (.t 40))⟩,
   ⟨(some 42), none, .x (.bslice 5 1 [(.int .u8 0)] 1 [(0, (.t 41))])⟩,
   ⟨(some 43), none, .x (.app 5 1 1 (.t 37) (.t 42))⟩,
   ⟨(some 4), none, .f (.mv (.t 43))⟩])
 (.seq (.seq (.reg [
   ⟨(some 44), none, .f (.fadr 4 (.t 1))⟩,
   ⟨(some 45), none, .f (.ld (.t 44))⟩,
   ⟨(some 46), none, .f (.len (.t 45))⟩,
   ⟨(some 47), none, .f (.mv (.c (.int .i64 0)))⟩])
 (.block 0 (.loop (.seq (.reg [
     ⟨(some 48), none, .f (.bin .lss (.t 47) (.t 46))⟩])
   (.seq (.cond (.t 48)
    .skip
    (.exit 0))
   (.seq (.block 1 (.seq (.reg [
      ⟨(some 49), none, .f (.iadr 1 (.t 45) (.t 47))⟩,
      ⟨(some 50), none, .f (.ld (.t 49))⟩,
      ⟨(some 6), none, .f (.mv (.t 50))⟩])
    (.reg [
      ⟨(some 51), none, .f (.mv (.t 4))⟩,
      ⟨(some 52), none, .f (.mv (.t 6))⟩,
      ⟨(some 53), none, .x (.call 63 [(.t 51), (.c (.int .i64 4)), (.t 52)])⟩,
      ⟨(some 4), none, .f (.mv (.t 53))⟩])))
   (.reg [
     ⟨(some 54), none, .f (.bin .add (.t 47) (.c (.int .i64 1)))⟩,
     ⟨(some 47), none, .f (.mv (.t 54))⟩])))))))
 (.seq (.reg [
   ⟨(some 55), none, .f (.mv (.t 4))⟩,
   ⟨(some 2), none, .f (.mv (.t 55))⟩,
   ⟨(some 3), none, .f (.mv (.c (.int .i64 0)))⟩])
 .ret)))))))
theorem ok28 : fnComp Tryd.prog 28 = some (56, c28, [(.mv (.t 2)), (.mv (.t 3))]) := by kernel_rfl

/-- loop.example/g00003/laws.szInt64S -/
def c69 : CC :=
 (.seq (.reg [
   ⟨(some 4), none, .f (.mv (.c (.int .i64 0)))⟩])
 (.seq (.reg [
   ⟨(some 5), none, .f (.mv (.t 1))⟩,
   ⟨(some 6), none, .f (.mv (.t 0))⟩,
   ⟨(some 7), none, .f (.len (.t 6))⟩,
   ⟨(some 8), none, .f (.bin .sub (.t 5) (.t 7))⟩,
   ⟨(some 1), none, .f (.mv (.t 8))⟩])
 (.seq (.seq (.reg [
   ⟨(some 9), none, .f (.mv (.t 1))⟩,
   ⟨(some 10), none, .f (.bin .lss (.t 9) (.c (.int .i64 0)))⟩])
 (.cond (.t 10)
  (.seq (.reg [
    ⟨(some 4), none, .f (.mv (.c (.int .i64 (-1))))⟩])
  .ret)
  .skip))
 (.seq (.reg [
   ⟨(some 11), none, .f (.mv (.t 1))⟩,
   ⟨(some 4), none, .f (.mv (.t 11))⟩])
 .ret))))
theorem ok69 : fnComp Tryd.prog 69 = some (12, c69, [(.mv (.t 4))]) := by kernel_rfl

/-- loop.example/g00003/spec.l19ReplyOK -/
def c70 : CC :=
 (.seq (.reg [
   ⟨(some 1), none, .x (.box 44 5 (.t 0))⟩,
   ⟨(some 2), none, .f (.mv (.c (.bool false)))⟩])
 (.seq (.seq (.reg [
   ⟨(some 4), none, .f (.fadr 0 (.t 1))⟩,
   ⟨(some 5), none, .f (.ld (.t 4))⟩,
   ⟨(some 6), none, .x (.call 60 [(.t 5)])⟩,
   ⟨(some 7), none, .f (.un .not (.t 6))⟩,
   ⟨(some 8), none, .f (.mv (.t 7))⟩,
   ⟨(some 9), (some (8, false)), .f (.fadr 3 (.t 1))⟩,
   ⟨(some 10), (some (8, false)), .f (.ld (.t 9))⟩,
   ⟨(some 11), (some (8, false)), .x (.call 12 [(.t 10)])⟩,
   ⟨(some 12), (some (8, false)), .f (.un .not (.t 11))⟩,
   ⟨(some 13), none, .f (.pick (.t 8) (.c (.bool true)) (.t 12))⟩,
   ⟨(some 14), none, .f (.mv (.t 13))⟩,
   ⟨(some 15), (some (14, false)), .f (.fadr 1 (.t 1))⟩,
   ⟨(some 16), (some (14, false)), .f (.ld (.t 15))⟩,
   ⟨(some 17), (some (14, false)), .x (.call 78 [(.t 16), (.c (.int .i64 0)), (.c (.int .i64 255))])⟩,
   ⟨(some 18), (some (14, false)), .f (.un .not (.t 17))⟩,
   ⟨(some 19), none, .f (.pick (.t 14) (.c (.bool true)) (.t 18))⟩,
   ⟨(some 20), none, .f (.mv (.t 19))⟩,
   ⟨(some 21), (some (20, false)), .f (.fadr 2 (.t 1))⟩,
   ⟨(some 22), (some (20, false)), .f (.ld (.t 21))⟩,
   ⟨(some 23), (some (20, false)), .x (.call 78 [(.t 22), (.c (.int .i64 0)), (.c (.int .i64 86400))])⟩,
   ⟨(some 24), (some (20, false)), .f (.un .not (.t 23))⟩,
   ⟨(some 25), none, .f (.pick (.t 20) (.c (.bool true)) (.t 24))⟩,
   ⟨(some 26), none, .f (.mv (.t 25))⟩,
   ⟨(some 27), (some (26, false)), .f (.fadr 4 (.t 1))⟩,
   ⟨(some 28), (some (26, false)), .f (.ld (.t 27))⟩,
   ⟨(some 29), (some (26, false)), .f (.len (.t 28))⟩,
   ⟨(some 30), (some (26, false)), .f (.bin .gtr (.t 29) (.c (.int .i64 8)))⟩,
   ⟨(some 31), none, .f (.pick (.t 26) (.c (.bool true)) (.t 30))⟩])
 (.cond (.t 31)
  (.seq (.reg [
    ⟨(some 2), none, .f (.mv (.c (.bool false)))⟩])
  .ret)
  .skip))
 (.seq (.seq (.reg [
   ⟨(some 3), none, .f (.mv (.c (.int .i64 0)))⟩])
 (.block 0 (.loop (.seq (.seq (.reg [
     ⟨(some 32), none, .f (.mv (.t 3))⟩,
     ⟨(some 33), none, .f (.fadr 4 (.t 1))⟩,
     ⟨(some 34), none, .f (.ld (.t 33))⟩,
     ⟨(some 35), none, .f (.len (.t 34))⟩,
     ⟨(some 36), none, .f (.bin .lss (.t 32) (.t 35))⟩])
   (.cond (.t 36)
    .skip
    (.exit 0)))
   (.seq (.block 1 (.seq (.reg [
      ⟨(some 39), none, .f (.fadr 4 (.t 1))⟩,
      ⟨(some 40), none, .f (.ld (.t 39))⟩,
      ⟨(some 41), none, .f (.mv (.t 3))⟩,
      ⟨(some 42), none, .f (.iadr 1 (.t 40) (.t 41))⟩,
      ⟨(some 43), none, .f (.ld (.t 42))⟩,
      ⟨(some 44), none, .x (.call 77 [(.t 43)])⟩,
      ⟨(some 45), none, .f (.un .not (.t 44))⟩])
    (.cond (.t 45)
     (.seq (.reg [
       ⟨(some 2), none, .f (.mv (.c (.bool false)))⟩])
     .ret)
     .skip)))
   (.reg [
     ⟨(some 37), none, .f (.mv (.t 3))⟩,
     ⟨(some 38), none, .f (.bin .add (.t 37) (.c (.int .i64 1)))⟩,
     ⟨(some 3), none, .f (.mv (.t 38))⟩]))))))
 (.seq (.reg [
   ⟨(some 2), none, .f (.mv (.c (.bool true)))⟩])
 .ret))))
theorem ok70 : fnComp Tryd.prog 70 = some (46, c70, [(.mv (.t 2))]) := by kernel_rfl

/-- loop.example/g00003/laws.toInt64S -/
def c71 : CC :=
 (.seq (.reg [
   ⟨(some 2), none, .f (.mv (.c .nilslice))⟩])
 (.seq (.reg [
   ⟨(some 5), none, .f (.mv (.t 0))⟩,
   ⟨(some 6), none, .f (.len (.t 5))⟩,
   ⟨(some 7), none, .x (.mks 2 1 8 [(.int .i64 0)] (.t 6) (.t 6))⟩,
   ⟨(some 3), none, .f (.mv (.t 7))⟩])
 (.seq (.seq (.reg [
   ⟨(some 4), none, .f (.mv (.c (.int .i64 0)))⟩])
 (.block 0 (.loop (.seq (.seq (.reg [
     ⟨(some 8), none, .f (.mv (.t 4))⟩,
     ⟨(some 9), none, .f (.mv (.t 0))⟩,
     ⟨(some 10), none, .f (.len (.t 9))⟩,
     ⟨(some 11), none, .f (.bin .lss (.t 8) (.t 10))⟩])
   (.cond (.t 11)
    .skip
    (.exit 0)))
   (.seq (.block 1 (.reg [
      ⟨(some 14), none, .f (.mv (.t 3))⟩,
      ⟨(some 15), none, .f (.mv (.t 4))⟩,
      ⟨(some 16), none, .f (.mv (.t 0))⟩,
      ⟨(some 17), none, .f (.mv (.t 4))⟩,
      ⟨(some 18), none, .f (.iadr 1 (.t 16) (.t 17))⟩,
      ⟨(some 19), none, .f (.ld (.t 18))⟩,
      ⟨(some 20), none, .f (.iadr 1 (.t 14) (.t 15))⟩,
      ⟨none, none, .x (.st 1 (.t 20) (.t 19))⟩]))
   (.reg [
     ⟨(some 12), none, .f (.mv (.t 4))⟩,
     ⟨(some 13), none, .f (.bin .add (.t 12) (.c (.int .i64 1)))⟩,
     ⟨(some 4), none, .f (.mv (.t 13))⟩]))))))
 (.seq (.reg [
   ⟨(some 21), none, .f (.mv (.t 3))⟩,
   ⟨(some 2), none, .f (.mv (.t 21))⟩])
 .ret))))
theorem ok71 : fnComp Tryd.prog 71 = some (22, c71, [(.mv (.t 2))]) := by kernel_rfl

/-- loop.example/g00003/impl.okReply -/
def c72 : CC :=
 (.seq (.reg [
   ⟨(some 1), none, .x (.box 44 5 (.t 0))⟩,
   ⟨(some 2), none, .f (.mv (.c (.bool false)))⟩])
 (.seq (.seq (.reg [
   ⟨(some 3), none, .f (.fadr 0 (.t 1))⟩,
   ⟨(some 4), none, .f (.ld (.t 3))⟩,
   ⟨(some 5), none, .f (.bin .lss (.t 4) (.c (.int .i64 0)))⟩,
   ⟨(some 6), none, .f (.mv (.t 5))⟩,
   ⟨(some 7), (some (6, false)), .f (.fadr 0 (.t 1))⟩,
   ⟨(some 8), (some (6, false)), .f (.ld (.t 7))⟩,
   ⟨(some 9), (some (6, false)), .f (.bin .gtr (.t 8) (.c (.int .i64 65535)))⟩,
   ⟨(some 10), none, .f (.pick (.t 6) (.c (.bool true)) (.t 9))⟩,
   ⟨(some 11), none, .f (.mv (.t 10))⟩,
   ⟨(some 12), (some (11, false)), .f (.fadr 1 (.t 1))⟩,
   ⟨(some 13), (some (11, false)), .f (.ld (.t 12))⟩,
   ⟨(some 14), (some (11, false)), .f (.bin .lss (.t 13) (.c (.int .i64 0)))⟩,
   ⟨(some 15), none, .f (.pick (.t 11) (.c (.bool true)) (.t 14))⟩,
   ⟨(some 16), none, .f (.mv (.t 15))⟩,
   ⟨(some 17), (some (16, false)), .f (.fadr 1 (.t 1))⟩,
   ⟨(some 18), (some (16, false)), .f (.ld (.t 17))⟩,
   ⟨(some 19), (some (16, false)), .f (.bin .gtr (.t 18) (.c (.int .i64 255)))⟩,
   ⟨(some 20), none, .f (.pick (.t 16) (.c (.bool true)) (.t 19))⟩,
   ⟨(some 21), none, .f (.mv (.t 20))⟩,
   ⟨(some 22), (some (21, false)), .f (.fadr 2 (.t 1))⟩,
   ⟨(some 23), (some (21, false)), .f (.ld (.t 22))⟩,
   ⟨(some 24), (some (21, false)), .f (.bin .lss (.t 23) (.c (.int .i64 0)))⟩,
   ⟨(some 25), none, .f (.pick (.t 21) (.c (.bool true)) (.t 24))⟩,
   ⟨(some 26), none, .f (.mv (.t 25))⟩,
   ⟨(some 27), (some (26, false)), .f (.fadr 2 (.t 1))⟩,
   ⟨(some 28), (some (26, false)), .f (.ld (.t 27))⟩,
   ⟨(some 29), (some (26, false)), .f (.bin .gtr (.t 28) (.c (.int .i64 86400)))⟩,
   ⟨(some 30), none, .f (.pick (.t 26) (.c (.bool true)) (.t 29))⟩,
   ⟨(some 31), none, .f (.mv (.t 30))⟩,
   ⟨(some 32), (some (31, false)), .f (.fadr 4 (.t 1))⟩,
   ⟨(some 33), (some (31, false)), .f (.ld (.t 32))⟩,
   ⟨(some 34), (some (31, false)), .f (.len (.t 33))⟩,
   ⟨(some 35), (some (31, false)), .f (.bin .gtr (.t 34) (.c (.int .i64 8)))⟩,
   ⟨(some 36), none, .f (.pick (.t 31) (.c (.bool true)) (.t 35))⟩])
 (.cond (.t 36)
  (.seq (.reg [
    ⟨(some 2), none, .f (.mv (.c (.bool false)))⟩])
  .ret)
  .skip))
 (.seq (.reg [
   ⟨(some 37), none, .f (.fadr 4 (.t 1))⟩,
   ⟨(some 38), none, .f (.ld (.t 37))⟩,
   ⟨(some 39), none, .x (.call 109 [(.t 38), (.fn 110)])⟩,
   ⟨(some 40), none, .f (.un .not (.t 39))⟩,
   ⟨(some 2), none, .f (.mv (.t 40))⟩])
 .ret)))
theorem ok72 : fnComp Tryd.prog 72 = some (41, c72, [(.mv (.t 2))]) := by kernel_rfl

/-- loop.example/g00003/spec.l02AddrOK -/
def c77 : CC :=
 (.seq (.reg [
   ⟨(some 2), none, .f (.mv (.c (.bool false)))⟩])
 (.seq (.reg [
   ⟨(some 3), none, .f (.mv (.t 0))⟩,
   ⟨(some 4), none, .x (.call 78 [(.t 3), (.c (.int .i64 0)), (.c (.int .i64 4294967295))])⟩,
   ⟨(some 2), none, .f (.mv (.t 4))⟩])
 .ret))
theorem ok77 : fnComp Tryd.prog 77 = some (5, c77, [(.mv (.t 2))]) := by kernel_rfl

/-- loop.example/g00003/impl.isAddr -/
def c80 : CC :=
 (.seq (.reg [
   ⟨(some 2), none, .f (.mv (.c (.bool false)))⟩])
 (.seq (.reg [
   ⟨(some 3), none, .f (.mv (.t 0))⟩,
   ⟨(some 4), none, .f (.bin .geq (.t 3) (.c (.int .i64 0)))⟩,
   ⟨(some 5), none, .f (.mv (.t 4))⟩,
   ⟨(some 6), (some (5, true)), .f (.mv (.t 0))⟩,
   ⟨(some 7), (some (5, true)), .f (.bin .leq (.t 6) (.c (.int .i64 4294967295)))⟩,
   ⟨(some 8), none, .f (.pick (.t 5) (.t 7) (.c (.bool false)))⟩,
   ⟨(some 2), none, .f (.mv (.t 8))⟩])
 .ret))
theorem ok80 : fnComp Tryd.prog 80 = some (9, c80, [(.mv (.t 2))]) := by kernel_rfl

/-- slices.ContainsFunc[[]int64,int64] -/
def c109 : CC :=
 (.seq (.reg [
   ⟨(some 4), none, .f (.mv (.c (.bool false)))⟩])
 (.seq (.reg [
   ⟨(some 5), none, .f (.mv (.t 0))⟩,
   ⟨(some 6), none, .f (.mv (.t 1))⟩,
   ⟨(some 7), none, .x (.call 133 [(.t 5), (.t 6)])⟩,
   ⟨(some 8), none, .f (.bin .geq (.t 7) (.c (.int .i64 0)))⟩,
   ⟨(some 4), none, .f (.mv (.t 8))⟩])
 .ret))
theorem ok109 : fnComp Tryd.prog 109 = some (9, c109, [(.mv (.t 4))]) := by kernel_rfl

/-- loop.example/g00003/impl.okReply$1 -/
def c110 : CC :=
 (.seq (.reg [
   ⟨(some 2), none, .f (.mv (.c (.bool false)))⟩])
 (.seq (.reg [
   ⟨(some 3), none, .f (.mv (.t 0))⟩,
   ⟨(some 4), none, .x (.call 80 [(.t 3)])⟩,
   ⟨(some 5), none, .f (.un .not (.t 4))⟩,
   ⟨(some 2), none, .f (.mv (.t 5))⟩])
 .ret))
theorem ok110 : fnComp Tryd.prog 110 = some (6, c110, [(.mv (.t 2))]) := by kernel_rfl

/-- slices.IndexFunc[[]int64,int64] -/
def c133 : CC :=
 (.seq (.reg [
   ⟨(some 4), none, .f (.mv (.c (.int .i64 0)))⟩])
 (.seq (.seq (.reg [
   ⟨(some 6), none, .f (.mv (.t 0))⟩,
   ⟨(some 7), none, .f (.len (.t 6))⟩,
   ⟨(some 8), none, .f (.mv (.c (.int .i64 0)))⟩])
 (.block 0 (.loop (.seq (.reg [
     ⟨(some 9), none, .f (.bin .lss (.t 8) (.t 7))⟩])
   (.seq (.cond (.t 9)
    .skip
    (.exit 0))
   (.seq (.block 1 (.seq (.reg [
      ⟨(some 10), none, .f (.mv (.t 8))⟩,
      ⟨(some 5), none, .f (.mv (.t 10))⟩])
    (.seq (.reg [
      ⟨(some 11), none, .f (.mv (.t 1))⟩,
      ⟨(some 12), none, .f (.mv (.t 0))⟩,
      ⟨(some 13), none, .f (.mv (.t 5))⟩,
      ⟨(some 14), none, .f (.iadr 1 (.t 12) (.t 13))⟩,
      ⟨(some 15), none, .f (.ld (.t 14))⟩,
      ⟨(some 16), none, .x (.callv (.t 11) [(.t 15)])⟩])
    (.cond (.t 16)
     (.seq (.reg [
       ⟨(some 17), none, .f (.mv (.t 5))⟩,
       ⟨(some 4), none, .f (.mv (.t 17))⟩])
     .ret)
     .skip))))
   (.reg [
     ⟨(some 18), none, .f (.bin .add (.t 8) (.c (.int .i64 1)))⟩,
     ⟨(some 8), none, .f (.mv (.t 18))⟩])))))))
 (.seq (.reg [
   ⟨(some 4), none, .f (.mv (.c (.int .i64 (-1))))⟩])
 .ret)))
theorem ok133 : fnComp Tryd.prog 133 = some (19, c133, [(.mv (.t 4))]) := by kernel_rfl

end Go.Proofs.YtcmcfmgabafljaaDoor

namespace Go.Proofs.YtcmcfmgabafljaaDoor
open Go Go.IW
/-- loop.example/g00003/laws.eqNameReply -/
def c29 : CC :=
 (.seq (.reg [
   ⟨(some 2), none, .x (.box 44 5 (.t 0))⟩,
   ⟨(some 3), none, .x (.box 44 5 (.t 1))⟩,
   ⟨(some 4), none, .f (.mv (.c (.bool false)))⟩])
 (.seq (.seq (.reg [
   ⟨(some 5), none, .f (.fadr 0 (.t 2))⟩,
   ⟨(some 6), none, .f (.ld (.t 5))⟩,
   ⟨(some 7), none, .f (.fadr 0 (.t 3))⟩,
   ⟨(some 8), none, .f (.ld (.t 7))⟩,
   ⟨(some 9), none, .f (.bin .neq (.t 6) (.t 8))⟩])
 (.cond (.t 9)
  (.seq (.reg [
    ⟨(some 4), none, .f (.mv (.c (.bool false)))⟩])
  .ret)
  .skip))
 (.seq (.seq (.reg [
   ⟨(some 10), none, .f (.fadr 1 (.t 2))⟩,
   ⟨(some 11), none, .f (.ld (.t 10))⟩,
   ⟨(some 12), none, .f (.fadr 1 (.t 3))⟩,
   ⟨(some 13), none, .f (.ld (.t 12))⟩,
   ⟨(some 14), none, .f (.bin .neq (.t 11) (.t 13))⟩])
 (.cond (.t 14)
  (.seq (.reg [
    ⟨(some 4), none, .f (.mv (.c (.bool false)))⟩])
  .ret)
  .skip))
 (.seq (.seq (.reg [
   ⟨(some 15), none, .f (.fadr 2 (.t 2))⟩,
   ⟨(some 16), none, .f (.ld (.t 15))⟩,
   ⟨(some 17), none, .f (.fadr 2 (.t 3))⟩,
   ⟨(some 18), none, .f (.ld (.t 17))⟩,
   ⟨(some 19), none, .f (.bin .neq (.t 16) (.t 18))⟩])
 (.cond (.t 19)
  (.seq (.reg [
    ⟨(some 4), none, .f (.mv (.c (.bool false)))⟩])
  .ret)
  .skip))
 (.seq (.seq (.reg [
   ⟨(some 20), none, .f (.fadr 3 (.t 2))⟩,
   ⟨(some 21), none, .f (.ld (.t 20))⟩,
   ⟨(some 22), none, .f (.fadr 3 (.t 3))⟩,
   ⟨(some 23), none, .f (.ld (.t 22))⟩,
   ⟨(some 24), none, .f (.bin .neq (.t 21) (.t 23))⟩])
 (.cond (.t 24)
  (.seq (.reg [
    ⟨(some 4), none, .f (.mv (.c (.bool false)))⟩])
  .ret)
  .skip))
 (.seq (.seq (.reg [
   ⟨(some 25), none, .f (.fadr 4 (.t 2))⟩,
   ⟨(some 26), none, .f (.ld (.t 25))⟩,
   ⟨(some 27), none, .f (.fadr 4 (.t 3))⟩,
   ⟨(some 28), none, .f (.ld (.t 27))⟩,
   ⟨(some 29), none, .x (.call 73 [(.t 26), (.t 28)])⟩,
   ⟨(some 30), none, .f (.un .not (.t 29))⟩])
 (.cond (.t 30)
  (.seq (.reg [
    ⟨(some 4), none, .f (.mv (.c (.bool false)))⟩])
  .ret)
  .skip))
 (.seq (.reg [
   ⟨(some 4), none, .f (.mv (.c (.bool true)))⟩])
 .ret)))))))
theorem ok29 : fnComp Tryd.prog 29 = some (31, c29, [(.mv (.t 4))]) := by kernel_rfl

/-- loop.example/g00003/laws.markNameReply -/
def c30 : CC :=
 (.seq (.reg [
   ⟨(some 2), none, .x (.box 44 5 (.t 0))⟩,
   ⟨(some 4), none, .f (.mv (.c (.int .i64 0)))⟩])
 (.seq (.reg [
   ⟨(some 5), none, .f (.fadr 4 (.t 2))⟩,
   ⟨(some 6), none, .f (.ld (.t 5))⟩,
   ⟨(some 7), none, .f (.mv (.t 1))⟩,
   ⟨(some 8), none, .x (.call 74 [(.t 6), (.t 7)])⟩,
   ⟨(some 1), none, .f (.mv (.t 8))⟩])
 (.seq (.reg [
   ⟨(some 9), none, .f (.mv (.t 1))⟩,
   ⟨(some 4), none, .f (.mv (.t 9))⟩])
 .ret)))
theorem ok30 : fnComp Tryd.prog 30 = some (10, c30, [(.mv (.t 4))]) := by kernel_rfl

/-- loop.example/g00003/laws.eqInt64S -/
def c73 : CC :=
 (.seq (.reg [
   ⟨(some 4), none, .f (.mv (.c (.bool false)))⟩])
 (.seq (.seq (.reg [
   ⟨(some 6), none, .f (.mv (.t 0))⟩,
   ⟨(some 7), none, .f (.len (.t 6))⟩,
   ⟨(some 8), none, .f (.mv (.t 1))⟩,
   ⟨(some 9), none, .f (.len (.t 8))⟩,
   ⟨(some 10), none, .f (.bin .neq (.t 7) (.t 9))⟩])
 (.cond (.t 10)
  (.seq (.reg [
    ⟨(some 4), none, .f (.mv (.c (.bool false)))⟩])
  .ret)
  .skip))
 (.seq (.seq (.reg [
   ⟨(some 5), none, .f (.mv (.c (.int .i64 0)))⟩])
 (.block 0 (.loop (.seq (.seq (.reg [
     ⟨(some 11), none, .f (.mv (.t 5))⟩,
     ⟨(some 12), none, .f (.mv (.t 0))⟩,
     ⟨(some 13), none, .f (.len (.t 12))⟩,
     ⟨(some 14), none, .f (.bin .lss (.t 11) (.t 13))⟩])
   (.cond (.t 14)
    .skip
    (.exit 0)))
   (.seq (.block 1 (.seq (.dreg [
      ⟨(some 17), none, .f (.mv (.t 0))⟩,
      ⟨(some 18), none, .f (.mv (.t 5))⟩,
      ⟨(some 19), none, .f (.iadr 1 (.t 17) (.t 18))⟩,
      ⟨(some 20), none, .f (.ld (.t 19))⟩,
      ⟨(some 21), none, .f (.mv (.t 1))⟩,
      ⟨(some 22), none, .f (.mv (.t 5))⟩,
      ⟨(some 23), none, .f (.iadr 1 (.t 21) (.t 22))⟩,
      ⟨(some 24), none, .f (.ld (.t 23))⟩,
      ⟨(some 25), none, .f (.bin .neq (.t 20) (.t 24))⟩]
      [false, false, false, false, false, false, false, false, false] [[], [], [0, 1], [2, 0, 1], [], [], [4, 5], [6, 4, 5], [3, 2, 0, 1, 7, 6, 4, 5]] [0, 1, 2, 3, 4, 5, 6, 7, 8])
    (.cond (.t 25)
     (.seq (.reg [
       ⟨(some 4), none, .f (.mv (.c (.bool false)))⟩])
     .ret)
     .skip)))
   (.reg [
     ⟨(some 15), none, .f (.mv (.t 5))⟩,
     ⟨(some 16), none, .f (.bin .add (.t 15) (.c (.int .i64 1)))⟩,
     ⟨(some 5), none, .f (.mv (.t 16))⟩]))))))
 (.seq (.reg [
   ⟨(some 4), none, .f (.mv (.c (.bool true)))⟩])
 .ret))))
theorem ok73 : fnComp Tryd.prog 73 = some (26, c73, [(.mv (.t 4))]) := by kernel_rfl

/-- loop.example/g00003/laws.markInt64S -/
def c74 : CC :=
 (.seq (.reg [
   ⟨(some 4), none, .f (.mv (.c (.int .i64 0)))⟩])
 (.seq (.seq (.reg [
   ⟨(some 5), none, .f (.mv (.c (.int .i64 0)))⟩])
 (.block 0 (.loop (.seq (.seq (.reg [
     ⟨(some 6), none, .f (.mv (.t 5))⟩,
     ⟨(some 7), none, .f (.mv (.t 0))⟩,
     ⟨(some 8), none, .f (.len (.t 7))⟩,
     ⟨(some 9), none, .f (.bin .lss (.t 6) (.t 8))⟩])
   (.cond (.t 9)
    .skip
    (.exit 0)))
   (.seq (.block 1 (.seq (.reg [
      ⟨(some 12), none, .f (.mv (.t 0))⟩,
      ⟨(some 13), none, .f (.mv (.t 5))⟩,
      ⟨(some 14), none, .f (.mv (.t 1))⟩,
      ⟨(some 15), none, .f (.iadr 1 (.t 12) (.t 13))⟩,
      ⟨none, none, .x (.st 1 (.t 15) (.t 14))⟩])
    (.reg [
      ⟨(some 16), none, .f (.mv (.t 1))⟩,
      ⟨(some 17), none, .f (.bin .add (.t 16) (.c (.int .i64 1)))⟩,
      ⟨(some 1), none, .f (.mv (.t 17))⟩])))
   (.reg [
     ⟨(some 10), none, .f (.mv (.t 5))⟩,
     ⟨(some 11), none, .f (.bin .add (.t 10) (.c (.int .i64 1)))⟩,
     ⟨(some 5), none, .f (.mv (.t 11))⟩]))))))
 (.seq (.reg [
   ⟨(some 18), none, .f (.mv (.t 1))⟩,
   ⟨(some 4), none, .f (.mv (.t 18))⟩])
 .ret)))
theorem ok74 : fnComp Tryd.prog 74 = some (19, c74, [(.mv (.t 4))]) := by kernel_rfl

/-- loop.example/g00003/laws.heldInt64S -/
def c75 : CC :=
 (.seq (.reg [
   ⟨(some 4), none, .f (.mv (.c (.int .i64 0)))⟩])
 (.seq (.seq (.reg [
   ⟨(some 5), none, .f (.mv (.c (.int .i64 0)))⟩])
 (.block 0 (.loop (.seq (.seq (.reg [
     ⟨(some 6), none, .f (.mv (.t 5))⟩,
     ⟨(some 7), none, .f (.mv (.t 0))⟩,
     ⟨(some 8), none, .f (.len (.t 7))⟩,
     ⟨(some 9), none, .f (.bin .lss (.t 6) (.t 8))⟩])
   (.cond (.t 9)
    .skip
    (.exit 0)))
   (.seq (.block 1 (.seq (.seq (.reg [
      ⟨(some 12), none, .f (.mv (.t 0))⟩,
      ⟨(some 13), none, .f (.mv (.t 5))⟩,
      ⟨(some 14), none, .f (.iadr 1 (.t 12) (.t 13))⟩,
      ⟨(some 15), none, .f (.ld (.t 14))⟩,
      ⟨(some 16), none, .f (.mv (.t 1))⟩,
      ⟨(some 17), none, .f (.bin .neq (.t 15) (.t 16))⟩])
    (.cond (.t 17)
     (.seq (.reg [
       ⟨(some 4), none, .f (.mv (.c (.int .i64 (-1))))⟩])
     .ret)
     .skip))
    (.reg [
      ⟨(some 18), none, .f (.mv (.t 1))⟩,
      ⟨(some 19), none, .f (.bin .add (.t 18) (.c (.int .i64 1)))⟩,
      ⟨(some 1), none, .f (.mv (.t 19))⟩])))
   (.reg [
     ⟨(some 10), none, .f (.mv (.t 5))⟩,
     ⟨(some 11), none, .f (.bin .add (.t 10) (.c (.int .i64 1)))⟩,
     ⟨(some 5), none, .f (.mv (.t 11))⟩]))))))
 (.seq (.reg [
   ⟨(some 20), none, .f (.mv (.t 1))⟩,
   ⟨(some 4), none, .f (.mv (.t 20))⟩])
 .ret)))
theorem ok75 : fnComp Tryd.prog 75 = some (21, c75, [(.mv (.t 4))]) := by kernel_rfl

/-- loop.example/g00003/laws.markText -/
def c82 : CC :=
 (.seq (.reg [
   ⟨(some 2), none, .f (.mv (.c (.str [])))⟩])
 (.seq (.seq (.reg [
   ⟨(some 4), none, .f (.mv (.t 0))⟩,
   ⟨(some 5), none, .f (.bin .leq (.t 4) (.c (.int .i64 0)))⟩])
 (.cond (.t 5)
  (.seq (.reg [
    ⟨(some 2), none, .f (.mv (.c (.str [109, 48])))⟩])
  .ret)
  .skip))
 (.seq (.reg [
   ⟨(some 3), none, .f (.mv (.c (.str [])))⟩])
 (.seq (.block 0 (.loop (.seq (.seq (.reg [
     ⟨(some 6), none, .f (.mv (.t 0))⟩,
     ⟨(some 7), none, .f (.bin .gtr (.t 6) (.c (.int .i64 0)))⟩])
   (.cond (.t 7)
    .skip
    (.exit 0)))
   (.block 1 (.seq (.reg [
      ⟨(some 8), none, .f (.mv (.t 0))⟩,
      ⟨(some 9), none, .f (.bin .rem (.t 8) (.c (.int .i64 10)))⟩,
      ⟨(some 10), none, .f (.bin .add (.c (.int .i64 48)) (.t 9))⟩,
      ⟨(some 11), none, .f (.cvI .u8 (.t 10))⟩,
      ⟨(some 12), none, .x (.bslice 5 1 [(.int .u8 0)] 1 [(0, (.t 11))])⟩,
      ⟨(some 13), none, .f (.b2s (.t 12))⟩,
      ⟨(some 14), none, .f (.mv (.t 3))⟩,
      ⟨(some 15), none, .f (.bin .add (.t 13) (.t 14))⟩,
      ⟨(some 3), none, .f (.mv (.t 15))⟩])
    (.reg [
      ⟨(some 16), none, .f (.mv (.t 0))⟩,
      ⟨(some 17), none, .f (.bin .quo (.t 16) (.c (.int .i64 10)))⟩,
      ⟨(some 0), none, .f (.mv (.t 17))⟩]))))))
 (.seq (.reg [
   ⟨(some 18), none, .f (.mv (.t 3))⟩,
   ⟨(some 19), none, .f (.bin .add (.c (.str [109])) (.t 18))⟩,
   ⟨(some 2), none, .f (.mv (.t 19))⟩])
 .ret)))))
theorem ok82 : fnComp Tryd.prog 82 = some (20, c82, [(.mv (.t 2))]) := by kernel_rfl

/-- loop.example/g00003/laws.FnExactDecodeReply -/
def c7 : CC :=
 (.seq (.reg [
   ⟨(some 2), none, .f (.mv (.c (.bool false)))⟩])
 (.seq (.seq (.reg [
   ⟨(some 13), none, .f (.mv (.t 0))⟩,
   ⟨(some 14), none, .f (.len (.t 13))⟩,
   ⟨(some 15), none, .f (.bin .gtr (.t 14) (.c (.int .i64 1048576)))⟩])
 (.cond (.t 15)
  (.seq (.reg [
    ⟨(some 2), none, .f (.mv (.c (.bool true)))⟩])
  .ret)
  .skip))
 (.seq (.reg [
   ⟨(some 17), none, .f (.mv (.t 0))⟩,
   ⟨(some 18), none, .x (.call 22 [(.t 17)])⟩,
   ⟨(some 19), none, .x (.call 31 [(.t 18)])⟩,
   ⟨(some 16), none, .f (.mv (.t 19))⟩,
   ⟨(some 20), none, .f (.ext 0 (.t 16))⟩,
   ⟨(some 21), none, .f (.ext 1 (.t 16))⟩,
   ⟨(some 3), none, .x (.zero 44 5 [(.int .i64 0), (.int .i64 0), (.int .i64 0), (.str []), .nilslice])⟩,
   ⟨none, none, .x (.st 5 (.t 3) (.t 20))⟩,
   ⟨(some 4), none, .f (.mv (.t 21))⟩])
 (.seq (.reg [
   ⟨(some 22), none, .f (.mv (.t 0))⟩,
   ⟨(some 23), none, .x (.call 22 [(.t 22)])⟩,
   ⟨(some 5), none, .f (.mv (.t 23))⟩])
 (.seq (.reg [
   ⟨(some 25), none, .f (.mv (.t 5))⟩,
   ⟨(some 26), none, .x (.call 32 [(.t 25)])⟩,
   ⟨(some 24), none, .f (.mv (.t 26))⟩,
   ⟨(some 27), none, .f (.ext 0 (.t 24))⟩,
   ⟨(some 28), none, .f (.ext 1 (.t 24))⟩,
   ⟨(some 6), none, .x (.zero 44 5 [(.int .i64 0), (.int .i64 0), (.int .i64 0), (.str []), .nilslice])⟩,
   ⟨none, none, .x (.st 5 (.t 6) (.t 27))⟩,
   ⟨(some 7), none, .f (.mv (.t 28))⟩])
 (.seq (.seq (.reg [
   ⟨(some 29), none, .f (.ldA 5 (.t 6))⟩,
   ⟨(some 30), none, .f (.ldA 5 (.t 3))⟩,
   ⟨(some 31), none, .x (.call 29 [(.t 29), (.t 30)])⟩,
   ⟨(some 32), none, .f (.un .not (.t 31))⟩,
   ⟨(some 33), none, .f (.mv (.t 32))⟩,
   ⟨(some 34), (some (33, false)), .f (.mv (.t 7))⟩,
   ⟨(some 35), (some (33, false)), .f (.mv (.t 4))⟩,
   ⟨(some 36), (some (33, false)), .f (.bin .neq (.t 34) (.t 35))⟩,
   ⟨(some 37), none, .f (.pick (.t 33) (.c (.bool true)) (.t 36))⟩])
 (.cond (.t 37)
  (.seq (.reg [
    ⟨(some 2), none, .f (.mv (.c (.bool false)))⟩])
  .ret)
  .skip))
 (.seq (.seq (.reg [
   ⟨(some 38), none, .f (.mv (.t 5))⟩,
   ⟨(some 39), none, .f (.mv (.t 0))⟩,
   ⟨(some 40), none, .x (.call 22 [(.t 39)])⟩,
   ⟨(some 41), none, .x (.call 18 [(.t 38), (.t 40)])⟩,
   ⟨(some 42), none, .f (.un .not (.t 41))⟩])
 (.cond (.t 42)
  (.seq (.reg [
    ⟨(some 2), none, .f (.mv (.c (.bool false)))⟩])
  .ret)
  .skip))
 (.seq (.reg [
   ⟨(some 8), none, .f (.mv (.c (.int .i64 1)))⟩])
 (.seq (.reg [
   ⟨(some 43), none, .f (.mv (.t 5))⟩,
   ⟨(some 44), none, .f (.mv (.t 8))⟩,
   ⟨(some 45), none, .x (.call 19 [(.t 43), (.t 44)])⟩,
   ⟨(some 8), none, .f (.mv (.t 45))⟩])
 (.seq (.seq (.reg [
   ⟨(some 46), none, .f (.mv (.t 8))⟩,
   ⟨(some 47), none, .f (.bin .lss (.t 46) (.c (.int .i64 0)))⟩,
   ⟨(some 48), none, .f (.mv (.t 47))⟩,
   ⟨(some 49), (some (48, false)), .f (.ldA 5 (.t 6))⟩,
   ⟨(some 50), (some (48, false)), .f (.ldA 5 (.t 3))⟩,
   ⟨(some 51), (some (48, false)), .x (.call 29 [(.t 49), (.t 50)])⟩,
   ⟨(some 52), (some (48, false)), .f (.un .not (.t 51))⟩,
   ⟨(some 53), none, .f (.pick (.t 48) (.c (.bool true)) (.t 52))⟩,
   ⟨(some 54), none, .f (.mv (.t 53))⟩,
   ⟨(some 55), (some (54, false)), .f (.mv (.t 7))⟩,
   ⟨(some 56), (some (54, false)), .f (.mv (.t 4))⟩,
   ⟨(some 57), (some (54, false)), .f (.bin .neq (.t 55) (.t 56))⟩,
   ⟨(some 58), none, .f (.pick (.t 54) (.c (.bool true)) (.t 57))⟩])
 (.cond (.t 58)
  (.seq (.reg [
    ⟨(some 2), none, .f (.mv (.c (.bool false)))⟩])
  .ret)
  .skip))
 (.seq (.reg [
   ⟨(some 9), none, .f (.mv (.c (.int .i64 1)))⟩])
 (.seq (.reg [
   ⟨(some 59), none, .f (.ldA 5 (.t 6))⟩,
   ⟨(some 60), none, .f (.mv (.t 9))⟩,
   ⟨(some 61), none, .x (.call 30 [(.t 59), (.t 60)])⟩,
   ⟨(some 9), none, .f (.mv (.t 61))⟩])
 (.seq (.reg [
   ⟨(some 10), none, .f (.mv (.c (.int .i64 1)))⟩])
 (.seq (.reg [
   ⟨(some 62), none, .f (.ldA 5 (.t 6))⟩,
   ⟨(some 63), none, .f (.mv (.t 10))⟩,
   ⟨(some 64), none, .x (.call 33 [(.t 62), (.t 63)])⟩,
   ⟨(some 10), none, .f (.mv (.t 64))⟩])
 (.seq (.seq (.reg [
   ⟨(some 65), none, .f (.mv (.t 10))⟩,
   ⟨(some 66), none, .f (.bin .lss (.t 65) (.c (.int .i64 0)))⟩])
 (.cond (.t 66)
  (.seq (.reg [
    ⟨(some 2), none, .f (.mv (.c (.bool false)))⟩])
  .ret)
  .skip))
 (.seq (.seq (.reg [
   ⟨(some 67), none, .f (.mv (.t 10))⟩,
   ⟨(some 68), none, .f (.mv (.t 9))⟩,
   ⟨(some 69), none, .f (.bin .neq (.t 67) (.t 68))⟩])
 (.cond (.t 69)
  (.seq (.reg [
    ⟨(some 2), none, .f (.mv (.c (.bool false)))⟩])
  .ret)
  .skip))
 (.seq (.reg [
   ⟨(some 71), none, .f (.mv (.t 0))⟩,
   ⟨(some 72), none, .x (.call 22 [(.t 71)])⟩,
   ⟨(some 73), none, .x (.call 32 [(.t 72)])⟩,
   ⟨(some 70), none, .f (.mv (.t 73))⟩,
   ⟨(some 74), none, .f (.ext 0 (.t 70))⟩,
   ⟨(some 75), none, .f (.ext 1 (.t 70))⟩,
   ⟨(some 11), none, .x (.zero 44 5 [(.int .i64 0), (.int .i64 0), (.int .i64 0), (.str []), .nilslice])⟩,
   ⟨none, none, .x (.st 5 (.t 11) (.t 74))⟩,
   ⟨(some 12), none, .f (.mv (.t 75))⟩])
 (.seq (.seq (.reg [
   ⟨(some 76), none, .f (.ldA 5 (.t 11))⟩,
   ⟨(some 77), none, .f (.ldA 5 (.t 3))⟩,
   ⟨(some 78), none, .x (.call 29 [(.t 76), (.t 77)])⟩,
   ⟨(some 79), none, .f (.un .not (.t 78))⟩,
   ⟨(some 80), none, .f (.mv (.t 79))⟩,
   ⟨(some 81), (some (80, false)), .f (.mv (.t 12))⟩,
   ⟨(some 82), (some (80, false)), .f (.mv (.t 4))⟩,
   ⟨(some 83), (some (80, false)), .f (.bin .neq (.t 81) (.t 82))⟩,
   ⟨(some 84), none, .f (.pick (.t 80) (.c (.bool true)) (.t 83))⟩])
 (.cond (.t 84)
  (.seq (.reg [
    ⟨(some 2), none, .f (.mv (.c (.bool false)))⟩])
  .ret)
  .skip))
 (.seq (.reg [
   ⟨(some 10), none, .f (.mv (.c (.int .i64 1)))⟩])
 (.seq (.reg [
   ⟨(some 85), none, .f (.ldA 5 (.t 6))⟩,
   ⟨(some 86), none, .f (.mv (.t 10))⟩,
   ⟨(some 87), none, .x (.call 33 [(.t 85), (.t 86)])⟩,
   ⟨(some 10), none, .f (.mv (.t 87))⟩])
 (.seq (.seq (.reg [
   ⟨(some 88), none, .f (.mv (.t 10))⟩,
   ⟨(some 89), none, .f (.bin .lss (.t 88) (.c (.int .i64 0)))⟩])
 (.cond (.t 89)
  (.seq (.reg [
    ⟨(some 2), none, .f (.mv (.c (.bool false)))⟩])
  .ret)
  .skip))
 (.seq (.seq (.reg [
   ⟨(some 90), none, .f (.mv (.t 10))⟩,
   ⟨(some 91), none, .f (.mv (.t 9))⟩,
   ⟨(some 92), none, .f (.bin .neq (.t 90) (.t 91))⟩])
 (.cond (.t 92)
  (.seq (.reg [
    ⟨(some 2), none, .f (.mv (.c (.bool false)))⟩])
  .ret)
  .skip))
 (.seq (.reg [
   ⟨(some 2), none, .f (.mv (.c (.bool true)))⟩])
 .ret)))))))))))))))))))))))
theorem ok7 : fnComp Tryd.prog 7 = some (93, c7, [(.mv (.t 2))]) := by kernel_rfl

/-- loop.example/g00003/spec.DecodeReply -/
def c31 : CC :=
 (.seq (.reg [
   ⟨(some 2), none, .x (.zero 44 5 [(.int .i64 0), (.int .i64 0), (.int .i64 0), (.str []), .nilslice])⟩,
   ⟨(some 3), none, .f (.mv (.c (.int .i64 0)))⟩])
 (.seq (.reg [
   ⟨(some 9), none, .f (.mv (.t 0))⟩,
   ⟨(some 10), none, .x (.call 64 [(.t 9), (.c (.int .i64 8))])⟩,
   ⟨(some 8), none, .f (.mv (.t 10))⟩,
   ⟨(some 11), none, .f (.ext 0 (.t 8))⟩,
   ⟨(some 12), none, .f (.ext 1 (.t 8))⟩,
   ⟨(some 4), none, .f (.mv (.t 11))⟩,
   ⟨(some 5), none, .f (.mv (.t 12))⟩])
 (.seq (.seq (.reg [
   ⟨(some 13), none, .f (.mv (.t 5))⟩,
   ⟨(some 14), none, .f (.bin .lss (.t 13) (.c (.int .i64 0)))⟩,
   ⟨(some 15), none, .f (.mv (.t 14))⟩,
   ⟨(some 16), (some (15, false)), .f (.mv (.t 5))⟩,
   ⟨(some 17), (some (15, false)), .f (.mv (.t 0))⟩,
   ⟨(some 18), (some (15, false)), .f (.len (.t 17))⟩,
   ⟨(some 19), (some (15, false)), .f (.bin .geq (.t 16) (.t 18))⟩,
   ⟨(some 20), none, .f (.pick (.t 15) (.c (.bool true)) (.t 19))⟩,
   ⟨(some 21), none, .f (.mv (.t 20))⟩,
   ⟨(some 22), (some (21, false)), .f (.mv (.t 5))⟩,
   ⟨(some 23), (some (21, false)), .f (.bin .add (.t 22) (.c (.int .i64 1)))⟩,
   ⟨(some 24), (some (21, false)), .f (.mv (.t 0))⟩,
   ⟨(some 25), (some (21, false)), .f (.mv (.t 5))⟩,
   ⟨(some 26), (some (21, false)), .f (.iadr 1 (.t 24) (.t 25))⟩,
   ⟨(some 27), (some (21, false)), .f (.ld (.t 26))⟩,
   ⟨(some 28), (some (21, false)), .f (.cvI .i64 (.t 27))⟩,
   ⟨(some 29), (some (21, false)), .f (.bin .mul (.c (.int .i64 4)) (.t 28))⟩,
   ⟨(some 30), (some (21, false)), .f (.bin .add (.t 23) (.t 29))⟩,
   ⟨(some 31), (some (21, false)), .f (.mv (.t 0))⟩,
   ⟨(some 32), (some (21, false)), .f (.len (.t 31))⟩,
   ⟨(some 33), (some (21, false)), .f (.bin .gtr (.t 30) (.t 32))⟩,
   ⟨(some 34), none, .f (.pick (.t 21) (.c (.bool true)) (.t 33))⟩])
 (.cond (.t 34)
  (.seq (.reg [
    ⟨(some 35), none, .f (.build [(.int .i64 0), (.int .i64 0), (.int .i64 0), (.str []), .nilslice] [])⟩,
    ⟨none, none, .x (.st 5 (.t 2) (.t 35))⟩,
    ⟨(some 3), none, .f (.mv (.c (.int .i64 2)))⟩])
  .ret)
  .skip))
 (.seq (.seq (.reg [
   ⟨(some 36), none, .f (.mv (.t 5))⟩,
   ⟨(some 37), none, .f (.bin .add (.t 36) (.c (.int .i64 1)))⟩,
   ⟨(some 38), none, .f (.mv (.t 0))⟩,
   ⟨(some 39), none, .f (.mv (.t 5))⟩,
   ⟨(some 40), none, .f (.iadr 1 (.t 38) (.t 39))⟩,
   ⟨(some 41), none, .f (.ld (.t 40))⟩,
   ⟨(some 42), none, .f (.cvI .i64 (.t 41))⟩,
   ⟨(some 43), none, .f (.bin .mul (.c (.int .i64 4)) (.t 42))⟩,
   ⟨(some 44), none, .f (.bin .add (.t 37) (.t 43))⟩,
   ⟨(some 45), none, .f (.mv (.t 0))⟩,
   ⟨(some 46), none, .f (.len (.t 45))⟩,
   ⟨(some 47), none, .f (.bin .lss (.t 44) (.t 46))⟩])
 (.cond (.t 47)
  (.seq (.reg [
    ⟨(some 48), none, .f (.build [(.int .i64 0), (.int .i64 0), (.int .i64 0), (.str []), .nilslice] [])⟩,
    ⟨none, none, .x (.st 5 (.t 2) (.t 48))⟩,
    ⟨(some 3), none, .f (.mv (.c (.int .i64 5)))⟩])
  .ret)
  .skip))
 (.seq (.seq (.reg [
   ⟨(some 49), none, .f (.mv (.t 0))⟩,
   ⟨(some 50), none, .f (.iadr 1 (.t 49) (.c (.int .i64 2)))⟩,
   ⟨(some 51), none, .f (.ld (.t 50))⟩,
   ⟨(some 52), none, .f (.bin .neq (.t 51) (.c (.int .u8 1)))⟩])
 (.cond (.t 52)
  (.seq (.reg [
    ⟨(some 53), none, .f (.build [(.int .i64 0), (.int .i64 0), (.int .i64 0), (.str []), .nilslice] [])⟩,
    ⟨none, none, .x (.st 5 (.t 2) (.t 53))⟩,
    ⟨(some 3), none, .f (.mv (.c (.int .i64 9)))⟩])
  .ret)
  .skip))
 (.seq (.seq (.reg [
   ⟨(some 54), none, .f (.mv (.t 4))⟩,
   ⟨(some 55), none, .x (.call 12 [(.t 54)])⟩,
   ⟨(some 56), none, .f (.un .not (.t 55))⟩])
 (.cond (.t 56)
  (.seq (.reg [
    ⟨(some 57), none, .f (.build [(.int .i64 0), (.int .i64 0), (.int .i64 0), (.str []), .nilslice] [])⟩,
    ⟨none, none, .x (.st 5 (.t 2) (.t 57))⟩,
    ⟨(some 3), none, .f (.mv (.c (.int .i64 6)))⟩])
  .ret)
  .skip))
 (.seq (.treg [
   ⟨(some 58), none, .f (.mv (.t 0))⟩,
   ⟨(some 59), none, .f (.slc 1 (.t 58) none (some (.c (.int .i64 2))) none)⟩,
   ⟨(some 60), none, .x (.call 65 [(.t 59)])⟩,
   ⟨(some 61), none, .f (.mv (.t 0))⟩,
   ⟨(some 62), none, .f (.iadr 1 (.t 61) (.c (.int .i64 3)))⟩,
   ⟨(some 63), none, .f (.ld (.t 62))⟩,
   ⟨(some 64), none, .f (.cvI .i64 (.t 63))⟩,
   ⟨(some 65), none, .f (.mv (.t 0))⟩,
   ⟨(some 66), none, .f (.slc 1 (.t 65) (some (.c (.int .i64 4))) (some (.c (.int .i64 8))) none)⟩,
   ⟨(some 67), none, .x (.call 65 [(.t 66)])⟩,
   ⟨(some 68), none, .f (.mv (.t 4))⟩,
   ⟨(some 69), none, .f (.build [(.int .i64 0), (.int .i64 0), (.int .i64 0), (.str []), .nilslice] [(0, 1, (.t 60)), (1, 1, (.t 64)), (2, 1, (.t 67)), (3, 1, (.t 68))])⟩,
   ⟨(some 6), none, .x (.zero 44 5 [(.int .i64 0), (.int .i64 0), (.int .i64 0), (.str []), .nilslice])⟩,
   ⟨none, none, .x (.st 5 (.t 6) (.t 69))⟩]
   [[], [0], [1, 0], [], [3], [4, 3], [5, 4, 3], [], [7], [8, 7, 2, 1, 0], [], [2, 1, 0, 6, 5, 4, 3, 9, 8, 7, 10], [], [12, 11, 2, 1, 0, 6, 5, 4, 3, 9, 8, 7, 10]] (.fl 0 (.fl 1 (.fl 3 (.fl 4 (.fl 5 (.fl 6 (.fl 7 (.fl 8 (.fl 10 (.br 2 (.br 9 (.fl 11 (.br 12 (.br 13 .fin .stop) .stop)) (.br 12 (.br 9 (.fl 11 (.br 13 .fin .stop)) .stop) .stop)) (.br 12 (.br 2 (.br 9 (.fl 11 (.br 13 .fin .stop)) .stop) .stop) .stop))))))))))))
 (.seq (.seq (.reg [
   ⟨(some 70), none, .f (.mv (.t 5))⟩,
   ⟨(some 71), none, .f (.bin .add (.t 70) (.c (.int .i64 1)))⟩,
   ⟨(some 7), none, .f (.mv (.t 71))⟩])
 (.block 0 (.loop (.seq (.seq (.reg [
     ⟨(some 72), none, .f (.mv (.t 7))⟩,
     ⟨(some 73), none, .f (.mv (.t 0))⟩,
     ⟨(some 74), none, .f (.len (.t 73))⟩,
     ⟨(some 75), none, .f (.bin .lss (.t 72) (.t 74))⟩])
   (.cond (.t 75)
    .skip
    (.exit 0)))
   (.seq (.block 1 (.dreg [
      ⟨(some 78), none, .f (.fadr 4 (.t 6))⟩,
      ⟨(some 79), none, .f (.ld (.t 78))⟩,
      ⟨(some 80), none, .f (.mv (.t 0))⟩,
      ⟨(some 81), none, .f (.mv (.t 7))⟩,
      ⟨(some 82), none, .f (.mv (.t 7))⟩,
      ⟨(some 83), none, .f (.bin .add (.t 82) (.c (.int .i64 4)))⟩,
      ⟨(some 84), none, .f (.slc 1 (.t 80) (some (.t 81)) (some (.t 83)) none)⟩,
      ⟨(some 85), none, .x (.call 65 [(.t 84)])⟩,
      ⟨(some 86), none, .x (.bslice 2 1 [(.int .i64 0)] 1 [(0, (.t 85))])⟩,
      ⟨(some 87), none, .x (.app 2 1 8 (.t 79) (.t 86))⟩,
      ⟨(some 88), none, .f (.fadr 4 (.t 6))⟩,
      ⟨none, none, .x (.st 1 (.t 88) (.t 87))⟩]
      [false, false, false, false, false, false, false, true, true, true, false, true] [[], [0], [], [], [], [4], [2, 3, 5, 4], [6, 2, 3, 5, 4], [7, 6, 2, 3, 5, 4], [1, 0, 8, 7, 6, 2, 3, 5, 4], [0, 1, 2, 3, 4, 5, 6, 7, 8, 9], [10, 0, 1, 2, 3, 4, 5, 6, 7, 8, 9]] [0, 1, 2, 3, 4, 5, 6, 7, 8, 9, 10, 11]))
   (.reg [
     ⟨(some 76), none, .f (.mv (.t 7))⟩,
     ⟨(some 77), none, .f (.bin .add (.t 76) (.c (.int .i64 4)))⟩,
     ⟨(some 7), none, .f (.mv (.t 77))⟩]))))))
 (.seq (.seq (.reg [
   ⟨(some 89), none, .f (.ldA 5 (.t 6))⟩,
   ⟨(some 90), none, .x (.call 70 [(.t 89)])⟩,
   ⟨(some 91), none, .f (.un .not (.t 90))⟩])
 (.cond (.t 91)
  (.seq (.reg [
    ⟨(some 92), none, .f (.build [(.int .i64 0), (.int .i64 0), (.int .i64 0), (.str []), .nilslice] [])⟩,
    ⟨none, none, .x (.st 5 (.t 2) (.t 92))⟩,
    ⟨(some 3), none, .f (.mv (.c (.int .i64 1)))⟩])
  .ret)
  .skip))
 (.seq (.reg [
   ⟨(some 93), none, .f (.ldA 5 (.t 6))⟩,
   ⟨none, none, .x (.st 5 (.t 2) (.t 93))⟩,
   ⟨(some 3), none, .f (.mv (.c (.int .i64 0)))⟩])
 .ret))))))))))
theorem ok31 : fnComp Tryd.prog 31 = some (94, c31, [(.ldA 5 (.t 2)), (.mv (.t 3))]) := by kernel_rfl

/-- loop.example/g00003/impl.DecodeReply -/
def c32 : CC :=
 (.seq (.reg [
   ⟨(some 2), none, .x (.zero 44 5 [(.int .i64 0), (.int .i64 0), (.int .i64 0), (.str []), .nilslice])⟩,
   ⟨(some 3), none, .f (.mv (.c (.int .i64 0)))⟩])
 (.seq (.reg [
   ⟨(some 9), none, .f (.mv (.t 0))⟩,
   ⟨(some 10), none, .f (.build [.nilslice, (.bool false)] [(0, 1, (.t 9))])⟩,
   ⟨(some 11), none, .x (.box 105 2 (.t 10))⟩,
   ⟨(some 4), none, .f (.mv (.t 11))⟩])
 (.seq (.reg [
   ⟨(some 12), none, .f (.mv (.t 4))⟩,
   ⟨(some 13), none, .x (.call 66 [(.t 12), (.c (.int .i64 2))])⟩,
   ⟨(some 14), none, .f (.build [(.int .i64 0), (.int .i64 0), (.int .i64 0), (.str []), .nilslice] [(0, 1, (.t 13))])⟩,
   ⟨(some 5), none, .x (.zero 44 5 [(.int .i64 0), (.int .i64 0), (.int .i64 0), (.str []), .nilslice])⟩,
   ⟨none, none, .x (.st 5 (.t 5) (.t 14))⟩])
 (.seq (.reg [
   ⟨(some 15), none, .f (.mv (.t 4))⟩,
   ⟨(some 16), none, .x (.call 66 [(.t 15), (.c (.int .i64 1))])⟩,
   ⟨(some 6), none, .f (.mv (.t 16))⟩])
 (.seq (.reg [
   ⟨(some 17), none, .f (.mv (.t 4))⟩,
   ⟨(some 18), none, .x (.call 66 [(.t 17), (.c (.int .i64 1))])⟩,
   ⟨(some 19), none, .f (.mv (.t 4))⟩,
   ⟨(some 20), none, .x (.call 66 [(.t 19), (.c (.int .i64 4))])⟩,
   ⟨(some 21), none, .f (.fadr 1 (.t 5))⟩,
   ⟨none, none, .x (.st 1 (.t 21) (.t 18))⟩,
   ⟨(some 22), none, .f (.fadr 2 (.t 5))⟩,
   ⟨none, none, .x (.st 1 (.t 22) (.t 20))⟩])
 (.seq (.reg [
   ⟨(some 23), none, .f (.mv (.t 4))⟩,
   ⟨(some 24), none, .f (.mv (.t 4))⟩,
   ⟨(some 25), none, .x (.call 66 [(.t 24), (.c (.int .i64 1))])⟩,
   ⟨(some 26), none, .x (.call 67 [(.t 23), (.t 25)])⟩,
   ⟨(some 27), none, .f (.b2s (.t 26))⟩,
   ⟨(some 28), none, .f (.fadr 3 (.t 5))⟩,
   ⟨none, none, .x (.st 1 (.t 28) (.t 27))⟩])
 (.seq (.seq (.reg [
   ⟨(some 29), none, .f (.mv (.t 4))⟩,
   ⟨(some 30), none, .x (.call 66 [(.t 29), (.c (.int .i64 1))])⟩,
   ⟨(some 7), none, .f (.mv (.t 30))⟩])
 (.block 0 (.loop (.seq (.seq (.reg [
     ⟨(some 31), none, .f (.mv (.t 7))⟩,
     ⟨(some 32), none, .f (.bin .gtr (.t 31) (.c (.int .i64 0)))⟩,
     ⟨(some 33), none, .f (.mv (.t 32))⟩,
     ⟨(some 34), (some (33, true)), .f (.mv (.t 4))⟩,
     ⟨(some 35), (some (33, true)), .f (.nck (.t 34))⟩,
     ⟨(some 36), (some (33, true)), .f (.fadr 1 (.t 35))⟩,
     ⟨(some 37), (some (33, true)), .f (.ld (.t 36))⟩,
     ⟨(some 38), (some (33, true)), .f (.un .not (.t 37))⟩,
     ⟨(some 39), none, .f (.pick (.t 33) (.t 38) (.c (.bool false)))⟩])
   (.cond (.t 39)
    .skip
    (.exit 0)))
   (.seq (.block 1 (.dreg [
      ⟨(some 42), none, .f (.fadr 4 (.t 5))⟩,
      ⟨(some 43), none, .f (.ld (.t 42))⟩,
      ⟨(some 44), none, .f (.mv (.t 4))⟩,
      ⟨(some 45), none, .x (.call 66 [(.t 44), (.c (.int .i64 4))])⟩,
      ⟨(some 46), none, .x (.bslice 2 1 [(.int .i64 0)] 1 [(0, (.t 45))])⟩,
      ⟨(some 47), none, .x (.app 2 1 8 (.t 43) (.t 46))⟩,
      ⟨(some 48), none, .f (.fadr 4 (.t 5))⟩,
      ⟨none, none, .x (.st 1 (.t 48) (.t 47))⟩]
      [false, false, false, true, true, true, false, true] [[], [0], [], [2], [3, 2], [1, 0, 4, 3, 2], [0, 1, 2, 3, 4, 5], [6, 0, 1, 2, 3, 4, 5]] [0, 1, 2, 3, 4, 5, 6, 7]))
   (.reg [
     ⟨(some 40), none, .f (.mv (.t 7))⟩,
     ⟨(some 41), none, .f (.bin .sub (.t 40) (.c (.int .i64 1)))⟩,
     ⟨(some 7), none, .f (.mv (.t 41))⟩]))))))
 (.seq (.reg [
   ⟨(some 49), none, .f (.mv (.t 4))⟩,
   ⟨(some 50), none, .f (.mv (.t 6))⟩,
   ⟨(some 51), none, .f (.fadr 3 (.t 5))⟩,
   ⟨(some 52), none, .f (.ld (.t 51))⟩,
   ⟨(some 53), none, .x (.call 68 [(.t 49), (.t 50), (.c (.int .i64 1)), (.t 52)])⟩,
   ⟨(some 8), none, .f (.mv (.t 53))⟩])
 (.seq (.seq (.reg [
   ⟨(some 54), none, .f (.mv (.t 8))⟩,
   ⟨(some 55), none, .f (.bin .eql (.t 54) (.c (.int .i64 0)))⟩,
   ⟨(some 56), none, .f (.mv (.t 55))⟩,
   ⟨(some 57), (some (56, true)), .f (.ldA 5 (.t 5))⟩,
   ⟨(some 58), (some (56, true)), .x (.call 72 [(.t 57)])⟩,
   ⟨(some 59), (some (56, true)), .f (.un .not (.t 58))⟩,
   ⟨(some 60), none, .f (.pick (.t 56) (.t 59) (.c (.bool false)))⟩])
 (.cond (.t 60)
  (.reg [
    ⟨(some 8), none, .f (.mv (.c (.int .i64 1)))⟩])
  .skip))
 (.seq (.seq (.reg [
   ⟨(some 61), none, .f (.mv (.t 8))⟩,
   ⟨(some 62), none, .f (.bin .neq (.t 61) (.c (.int .i64 0)))⟩])
 (.cond (.t 62)
  (.seq (.reg [
    ⟨(some 63), none, .f (.build [(.int .i64 0), (.int .i64 0), (.int .i64 0), (.str []), .nilslice] [])⟩,
    ⟨(some 64), none, .f (.mv (.t 8))⟩,
    ⟨none, none, .x (.st 5 (.t 2) (.t 63))⟩,
    ⟨(some 3), none, .f (.mv (.t 64))⟩])
  .ret)
  .skip))
 (.seq (.reg [
   ⟨(some 65), none, .f (.ldA 5 (.t 5))⟩,
   ⟨none, none, .x (.st 5 (.t 2) (.t 65))⟩,
   ⟨(some 3), none, .f (.mv (.c (.int .i64 0)))⟩])
 .ret)))))))))))
theorem ok32 : fnComp Tryd.prog 32 = some (66, c32, [(.ldA 5 (.t 2)), (.mv (.t 3))]) := by kernel_rfl

/-- loop.example/g00003/laws.heldNameReply -/
def c33 : CC :=
 (.seq (.reg [
   ⟨(some 2), none, .x (.box 44 5 (.t 0))⟩,
   ⟨(some 4), none, .f (.mv (.c (.int .i64 0)))⟩])
 (.seq (.reg [
   ⟨(some 5), none, .f (.fadr 4 (.t 2))⟩,
   ⟨(some 6), none, .f (.ld (.t 5))⟩,
   ⟨(some 7), none, .f (.mv (.t 1))⟩,
   ⟨(some 8), none, .x (.call 75 [(.t 6), (.t 7)])⟩,
   ⟨(some 1), none, .f (.mv (.t 8))⟩])
 (.seq (.seq (.reg [
   ⟨(some 9), none, .f (.mv (.t 1))⟩,
   ⟨(some 10), none, .f (.bin .lss (.t 9) (.c (.int .i64 0)))⟩])
 (.cond (.t 10)
  (.seq (.reg [
    ⟨(some 4), none, .f (.mv (.c (.int .i64 (-1))))⟩])
  .ret)
  .skip))
 (.seq (.reg [
   ⟨(some 11), none, .f (.mv (.t 1))⟩,
   ⟨(some 4), none, .f (.mv (.t 11))⟩])
 .ret))))
theorem ok33 : fnComp Tryd.prog 33 = some (12, c33, [(.mv (.t 4))]) := by kernel_rfl

end Go.Proofs.YtcmcfmgabafljaaDoor

namespace Go.Proofs.YtcmcfmgabafljaaDoor
open Go Go.IW
/-- loop.example/g00003/laws.FnExactAnswerName -/
def c8 : CC :=
 (.seq (.reg [
   ⟨(some 4), none, .f (.mv (.c (.bool false)))⟩])
 (.seq (.seq (.reg [
   ⟨(some 17), none, .f (.mv (.t 1))⟩,
   ⟨(some 18), none, .f (.len (.t 17))⟩,
   ⟨(some 19), none, .f (.bin .gtr (.t 18) (.c (.int .i64 1048576)))⟩])
 (.cond (.t 19)
  (.seq (.reg [
    ⟨(some 4), none, .f (.mv (.c (.bool true)))⟩])
  .ret)
  .skip))
 (.seq (.reg [
   ⟨(some 5), none, .f (.mv (.c (.int .i64 1048576)))⟩])
 (.seq (.reg [
   ⟨(some 20), none, .f (.mv (.t 0))⟩,
   ⟨(some 21), none, .f (.mv (.t 5))⟩,
   ⟨(some 22), none, .x (.call 34 [(.t 20), (.t 21)])⟩,
   ⟨(some 5), none, .f (.mv (.t 22))⟩])
 (.seq (.seq (.reg [
   ⟨(some 23), none, .f (.mv (.t 5))⟩,
   ⟨(some 24), none, .f (.bin .lss (.t 23) (.c (.int .i64 0)))⟩])
 (.cond (.t 24)
  (.seq (.reg [
    ⟨(some 4), none, .f (.mv (.c (.bool true)))⟩])
  .ret)
  .skip))
 (.seq (.reg [
   ⟨(some 26), none, .f (.mv (.t 0))⟩,
   ⟨(some 27), none, .x (.call 36 [(.t 26)])⟩,
   ⟨(some 28), none, .f (.mv (.t 1))⟩,
   ⟨(some 29), none, .x (.call 22 [(.t 28)])⟩,
   ⟨(some 30), none, .x (.call 35 [(.t 27), (.t 29)])⟩,
   ⟨(some 25), none, .f (.mv (.t 30))⟩,
   ⟨(some 31), none, .f (.ext 0 (.t 25))⟩,
   ⟨(some 32), none, .f (.ext 1 (.t 25))⟩,
   ⟨(some 6), none, .f (.mv (.t 31))⟩,
   ⟨(some 7), none, .f (.mv (.t 32))⟩])
 (.seq (.reg [
   ⟨(some 33), none, .f (.mv (.t 0))⟩,
   ⟨(some 34), none, .x (.call 36 [(.t 33)])⟩,
   ⟨(some 8), none, .f (.mv (.t 34))⟩])
 (.seq (.reg [
   ⟨(some 35), none, .f (.mv (.t 1))⟩,
   ⟨(some 36), none, .x (.call 22 [(.t 35)])⟩,
   ⟨(some 9), none, .f (.mv (.t 36))⟩])
 (.seq (.reg [
   ⟨(some 38), none, .f (.mv (.t 8))⟩,
   ⟨(some 39), none, .f (.mv (.t 9))⟩,
   ⟨(some 40), none, .x (.call 37 [(.t 38), (.t 39)])⟩,
   ⟨(some 37), none, .f (.mv (.t 40))⟩,
   ⟨(some 41), none, .f (.ext 0 (.t 37))⟩,
   ⟨(some 42), none, .f (.ext 1 (.t 37))⟩,
   ⟨(some 10), none, .f (.mv (.t 41))⟩,
   ⟨(some 11), none, .f (.mv (.t 42))⟩])
 (.seq (.seq (.reg [
   ⟨(some 43), none, .f (.mv (.t 10))⟩,
   ⟨(some 44), none, .f (.mv (.t 6))⟩,
   ⟨(some 45), none, .x (.call 18 [(.t 43), (.t 44)])⟩,
   ⟨(some 46), none, .f (.un .not (.t 45))⟩,
   ⟨(some 47), none, .f (.mv (.t 46))⟩,
   ⟨(some 48), (some (47, false)), .f (.mv (.t 11))⟩,
   ⟨(some 49), (some (47, false)), .f (.mv (.t 7))⟩,
   ⟨(some 50), (some (47, false)), .f (.bin .neq (.t 48) (.t 49))⟩,
   ⟨(some 51), none, .f (.pick (.t 47) (.c (.bool true)) (.t 50))⟩])
 (.cond (.t 51)
  (.seq (.reg [
    ⟨(some 4), none, .f (.mv (.c (.bool false)))⟩])
  .ret)
  .skip))
 (.seq (.seq (.reg [
   ⟨(some 52), none, .f (.mv (.t 8))⟩,
   ⟨(some 53), none, .f (.mv (.t 0))⟩,
   ⟨(some 54), none, .x (.call 36 [(.t 53)])⟩,
   ⟨(some 55), none, .x (.call 38 [(.t 52), (.t 54)])⟩,
   ⟨(some 56), none, .f (.un .not (.t 55))⟩])
 (.cond (.t 56)
  (.seq (.reg [
    ⟨(some 4), none, .f (.mv (.c (.bool false)))⟩])
  .ret)
  .skip))
 (.seq (.seq (.reg [
   ⟨(some 57), none, .f (.mv (.t 9))⟩,
   ⟨(some 58), none, .f (.mv (.t 1))⟩,
   ⟨(some 59), none, .x (.call 22 [(.t 58)])⟩,
   ⟨(some 60), none, .x (.call 18 [(.t 57), (.t 59)])⟩,
   ⟨(some 61), none, .f (.un .not (.t 60))⟩])
 (.cond (.t 61)
  (.seq (.reg [
    ⟨(some 4), none, .f (.mv (.c (.bool false)))⟩])
  .ret)
  .skip))
 (.seq (.reg [
   ⟨(some 12), none, .f (.mv (.c (.int .i64 1)))⟩])
 (.seq (.reg [
   ⟨(some 62), none, .f (.mv (.t 8))⟩,
   ⟨(some 63), none, .f (.mv (.t 12))⟩,
   ⟨(some 64), none, .x (.call 39 [(.t 62), (.t 63)])⟩,
   ⟨(some 12), none, .f (.mv (.t 64))⟩])
 (.seq (.reg [
   ⟨(some 65), none, .f (.mv (.t 9))⟩,
   ⟨(some 66), none, .f (.mv (.t 12))⟩,
   ⟨(some 67), none, .x (.call 19 [(.t 65), (.t 66)])⟩,
   ⟨(some 12), none, .f (.mv (.t 67))⟩])
 (.seq (.seq (.reg [
   ⟨(some 68), none, .f (.mv (.t 12))⟩,
   ⟨(some 69), none, .f (.bin .lss (.t 68) (.c (.int .i64 0)))⟩,
   ⟨(some 70), none, .f (.mv (.t 69))⟩,
   ⟨(some 71), (some (70, false)), .f (.mv (.t 10))⟩,
   ⟨(some 72), (some (70, false)), .f (.mv (.t 6))⟩,
   ⟨(some 73), (some (70, false)), .x (.call 18 [(.t 71), (.t 72)])⟩,
   ⟨(some 74), (some (70, false)), .f (.un .not (.t 73))⟩,
   ⟨(some 75), none, .f (.pick (.t 70) (.c (.bool true)) (.t 74))⟩,
   ⟨(some 76), none, .f (.mv (.t 75))⟩,
   ⟨(some 77), (some (76, false)), .f (.mv (.t 11))⟩,
   ⟨(some 78), (some (76, false)), .f (.mv (.t 7))⟩,
   ⟨(some 79), (some (76, false)), .f (.bin .neq (.t 77) (.t 78))⟩,
   ⟨(some 80), none, .f (.pick (.t 76) (.c (.bool true)) (.t 79))⟩])
 (.cond (.t 80)
  (.seq (.reg [
    ⟨(some 4), none, .f (.mv (.c (.bool false)))⟩])
  .ret)
  .skip))
 (.seq (.reg [
   ⟨(some 13), none, .f (.mv (.c (.int .i64 1)))⟩])
 (.seq (.reg [
   ⟨(some 81), none, .f (.mv (.t 10))⟩,
   ⟨(some 82), none, .f (.mv (.t 13))⟩,
   ⟨(some 83), none, .x (.call 19 [(.t 81), (.t 82)])⟩,
   ⟨(some 13), none, .f (.mv (.t 83))⟩])
 (.seq (.reg [
   ⟨(some 14), none, .f (.mv (.c (.int .i64 1)))⟩])
 (.seq (.reg [
   ⟨(some 84), none, .f (.mv (.t 10))⟩,
   ⟨(some 85), none, .f (.mv (.t 14))⟩,
   ⟨(some 86), none, .x (.call 20 [(.t 84), (.t 85)])⟩,
   ⟨(some 14), none, .f (.mv (.t 86))⟩])
 (.seq (.seq (.reg [
   ⟨(some 87), none, .f (.mv (.t 14))⟩,
   ⟨(some 88), none, .f (.bin .lss (.t 87) (.c (.int .i64 0)))⟩])
 (.cond (.t 88)
  (.seq (.reg [
    ⟨(some 4), none, .f (.mv (.c (.bool false)))⟩])
  .ret)
  .skip))
 (.seq (.seq (.reg [
   ⟨(some 89), none, .f (.mv (.t 14))⟩,
   ⟨(some 90), none, .f (.mv (.t 13))⟩,
   ⟨(some 91), none, .f (.bin .neq (.t 89) (.t 90))⟩])
 (.cond (.t 91)
  (.seq (.reg [
    ⟨(some 4), none, .f (.mv (.c (.bool false)))⟩])
  .ret)
  .skip))
 (.seq (.reg [
   ⟨(some 93), none, .f (.mv (.t 0))⟩,
   ⟨(some 94), none, .x (.call 36 [(.t 93)])⟩,
   ⟨(some 95), none, .f (.mv (.t 1))⟩,
   ⟨(some 96), none, .x (.call 22 [(.t 95)])⟩,
   ⟨(some 97), none, .x (.call 37 [(.t 94), (.t 96)])⟩,
   ⟨(some 92), none, .f (.mv (.t 97))⟩,
   ⟨(some 98), none, .f (.ext 0 (.t 92))⟩,
   ⟨(some 99), none, .f (.ext 1 (.t 92))⟩,
   ⟨(some 15), none, .f (.mv (.t 98))⟩,
   ⟨(some 16), none, .f (.mv (.t 99))⟩])
 (.seq (.seq (.reg [
   ⟨(some 100), none, .f (.mv (.t 15))⟩,
   ⟨(some 101), none, .f (.mv (.t 6))⟩,
   ⟨(some 102), none, .x (.call 18 [(.t 100), (.t 101)])⟩,
   ⟨(some 103), none, .f (.un .not (.t 102))⟩,
   ⟨(some 104), none, .f (.mv (.t 103))⟩,
   ⟨(some 105), (some (104, false)), .f (.mv (.t 16))⟩,
   ⟨(some 106), (some (104, false)), .f (.mv (.t 7))⟩,
   ⟨(some 107), (some (104, false)), .f (.bin .neq (.t 105) (.t 106))⟩,
   ⟨(some 108), none, .f (.pick (.t 104) (.c (.bool true)) (.t 107))⟩])
 (.cond (.t 108)
  (.seq (.reg [
    ⟨(some 4), none, .f (.mv (.c (.bool false)))⟩])
  .ret)
  .skip))
 (.seq (.reg [
   ⟨(some 14), none, .f (.mv (.c (.int .i64 1)))⟩])
 (.seq (.reg [
   ⟨(some 109), none, .f (.mv (.t 10))⟩,
   ⟨(some 110), none, .f (.mv (.t 14))⟩,
   ⟨(some 111), none, .x (.call 20 [(.t 109), (.t 110)])⟩,
   ⟨(some 14), none, .f (.mv (.t 111))⟩])
 (.seq (.seq (.reg [
   ⟨(some 112), none, .f (.mv (.t 14))⟩,
   ⟨(some 113), none, .f (.bin .lss (.t 112) (.c (.int .i64 0)))⟩])
 (.cond (.t 113)
  (.seq (.reg [
    ⟨(some 4), none, .f (.mv (.c (.bool false)))⟩])
  .ret)
  .skip))
 (.seq (.seq (.reg [
   ⟨(some 114), none, .f (.mv (.t 14))⟩,
   ⟨(some 115), none, .f (.mv (.t 13))⟩,
   ⟨(some 116), none, .f (.bin .neq (.t 114) (.t 115))⟩])
 (.cond (.t 116)
  (.seq (.reg [
    ⟨(some 4), none, .f (.mv (.c (.bool false)))⟩])
  .ret)
  .skip))
 (.seq (.reg [
   ⟨(some 4), none, .f (.mv (.c (.bool true)))⟩])
 .ret)))))))))))))))))))))))))))))
theorem ok8 : fnComp Tryd.prog 8 = some (117, c8, [(.mv (.t 4))]) := by kernel_rfl

/-- loop.example/g00003/laws.szNameEntryS -/
def c34 : CC :=
 (.seq (.reg [
   ⟨(some 4), none, .f (.mv (.c (.int .i64 0)))⟩])
 (.seq (.reg [
   ⟨(some 6), none, .f (.mv (.t 1))⟩,
   ⟨(some 7), none, .f (.mv (.t 0))⟩,
   ⟨(some 8), none, .f (.len (.t 7))⟩,
   ⟨(some 9), none, .f (.bin .sub (.t 6) (.t 8))⟩,
   ⟨(some 1), none, .f (.mv (.t 9))⟩])
 (.seq (.seq (.reg [
   ⟨(some 10), none, .f (.mv (.t 1))⟩,
   ⟨(some 11), none, .f (.bin .lss (.t 10) (.c (.int .i64 0)))⟩])
 (.cond (.t 11)
  (.seq (.reg [
    ⟨(some 4), none, .f (.mv (.c (.int .i64 (-1))))⟩])
  .ret)
  .skip))
 (.seq (.seq (.reg [
   ⟨(some 5), none, .f (.mv (.c (.int .i64 0)))⟩])
 (.block 0 (.loop (.seq (.seq (.reg [
     ⟨(some 12), none, .f (.mv (.t 5))⟩,
     ⟨(some 13), none, .f (.mv (.t 0))⟩,
     ⟨(some 14), none, .f (.len (.t 13))⟩,
     ⟨(some 15), none, .f (.bin .lss (.t 12) (.t 14))⟩])
   (.cond (.t 15)
    .skip
    (.exit 0)))
   (.seq (.block 1 (.seq (.reg [
      ⟨(some 18), none, .f (.mv (.t 0))⟩,
      ⟨(some 19), none, .f (.mv (.t 5))⟩,
      ⟨(some 20), none, .f (.iadr 3 (.t 18) (.t 19))⟩,
      ⟨(some 21), none, .f (.ldA 3 (.t 20))⟩,
      ⟨(some 22), none, .f (.mv (.t 1))⟩,
      ⟨(some 23), none, .x (.call 76 [(.t 21), (.t 22)])⟩,
      ⟨(some 1), none, .f (.mv (.t 23))⟩])
    (.seq (.reg [
      ⟨(some 24), none, .f (.mv (.t 1))⟩,
      ⟨(some 25), none, .f (.bin .lss (.t 24) (.c (.int .i64 0)))⟩])
    (.cond (.t 25)
     (.seq (.reg [
       ⟨(some 4), none, .f (.mv (.c (.int .i64 (-1))))⟩])
     .ret)
     .skip))))
   (.reg [
     ⟨(some 16), none, .f (.mv (.t 5))⟩,
     ⟨(some 17), none, .f (.bin .add (.t 16) (.c (.int .i64 1)))⟩,
     ⟨(some 5), none, .f (.mv (.t 17))⟩]))))))
 (.seq (.reg [
   ⟨(some 26), none, .f (.mv (.t 1))⟩,
   ⟨(some 4), none, .f (.mv (.t 26))⟩])
 .ret)))))
theorem ok34 : fnComp Tryd.prog 34 = some (27, c34, [(.mv (.t 4))]) := by kernel_rfl

/-- loop.example/g00003/spec.AnswerName -/
def c35 : CC :=
 (.seq (.reg [
   ⟨(some 4), none, .f (.mv (.c .nilslice))⟩,
   ⟨(some 5), none, .f (.mv (.c (.int .i64 0)))⟩])
 (.seq (.reg [
   ⟨(some 12), none, .f (.mv (.t 1))⟩,
   ⟨(some 13), none, .x (.call 21 [(.t 12)])⟩,
   ⟨(some 11), none, .f (.mv (.t 13))⟩,
   ⟨(some 14), none, .f (.ext 0 (.t 11))⟩,
   ⟨(some 15), none, .f (.ext 1 (.t 11))⟩,
   ⟨(some 6), none, .x (.zero 29 2 [(.int .i64 0), (.str [])])⟩,
   ⟨none, none, .x (.st 2 (.t 6) (.t 14))⟩,
   ⟨(some 7), none, .f (.mv (.t 15))⟩])
 (.seq (.seq (.reg [
   ⟨(some 16), none, .f (.mv (.t 7))⟩,
   ⟨(some 17), none, .f (.bin .neq (.t 16) (.c (.int .i64 0)))⟩])
 (.cond (.t 17)
  (.seq (.reg [
    ⟨(some 18), none, .f (.mv (.t 7))⟩,
    ⟨(some 4), none, .f (.mv (.c .nilslice))⟩,
    ⟨(some 5), none, .f (.mv (.t 18))⟩])
  .ret)
  .skip))
 (.seq (.reg [
   ⟨(some 19), none, .f (.fadr 0 (.t 6))⟩,
   ⟨(some 20), none, .f (.ld (.t 19))⟩,
   ⟨(some 21), none, .f (.fadr 1 (.t 6))⟩,
   ⟨(some 22), none, .f (.ld (.t 21))⟩,
   ⟨(some 23), none, .f (.build [(.int .i64 0), (.int .i64 0), (.int .i64 0), (.str []), .nilslice] [(0, 1, (.t 20)), (3, 1, (.t 22)), (1, 1, (.c (.int .i64 20))), (2, 1, (.c (.int .i64 10)))])⟩,
   ⟨(some 8), none, .x (.zero 44 5 [(.int .i64 0), (.int .i64 0), (.int .i64 0), (.str []), .nilslice])⟩,
   ⟨none, none, .x (.st 5 (.t 8) (.t 23))⟩])
 (.seq (.seq (.reg [
   ⟨(some 9), none, .f (.mv (.c (.int .i64 0)))⟩])
 (.block 0 (.loop (.seq (.seq (.reg [
     ⟨(some 24), none, .f (.mv (.t 9))⟩,
     ⟨(some 25), none, .f (.mv (.t 0))⟩,
     ⟨(some 26), none, .f (.len (.t 25))⟩,
     ⟨(some 27), none, .f (.bin .lss (.t 24) (.t 26))⟩])
   (.cond (.t 27)
    .skip
    (.exit 0)))
   (.seq (.block 1 (.seq (.reg [
      ⟨(some 30), none, .f (.mv (.t 0))⟩,
      ⟨(some 31), none, .f (.mv (.t 9))⟩,
      ⟨(some 32), none, .f (.iadr 3 (.t 30) (.t 31))⟩,
      ⟨(some 33), none, .f (.ldA 3 (.t 32))⟩,
      ⟨(some 10), none, .x (.zero 116 3 [(.str []), (.int .i64 0), (.int .i64 0)])⟩,
      ⟨none, none, .x (.st 3 (.t 10) (.t 33))⟩])
    (.seq (.seq (.reg [
      ⟨(some 34), none, .f (.fadr 0 (.t 10))⟩,
      ⟨(some 35), none, .f (.ld (.t 34))⟩,
      ⟨(some 36), none, .f (.fadr 1 (.t 6))⟩,
      ⟨(some 37), none, .f (.ld (.t 36))⟩,
      ⟨(some 38), none, .f (.bin .neq (.t 35) (.t 37))⟩,
      ⟨(some 39), none, .f (.mv (.t 38))⟩,
      ⟨(some 40), (some (39, false)), .f (.fadr 1 (.t 10))⟩,
      ⟨(some 41), (some (39, false)), .f (.ld (.t 40))⟩,
      ⟨(some 42), (some (39, false)), .x (.call 77 [(.t 41)])⟩,
      ⟨(some 43), (some (39, false)), .f (.un .not (.t 42))⟩,
      ⟨(some 44), none, .f (.pick (.t 39) (.c (.bool true)) (.t 43))⟩,
      ⟨(some 45), none, .f (.mv (.t 44))⟩,
      ⟨(some 46), (some (45, false)), .f (.fadr 2 (.t 10))⟩,
      ⟨(some 47), (some (45, false)), .f (.ld (.t 46))⟩,
      ⟨(some 48), (some (45, false)), .x (.call 78 [(.t 47), (.c (.int .i64 0)), (.c (.int .i64 86400))])⟩,
      ⟨(some 49), (some (45, false)), .f (.un .not (.t 48))⟩,
      ⟨(some 50), none, .f (.pick (.t 45) (.c (.bool true)) (.t 49))⟩,
      ⟨(some 51), none, .f (.mv (.t 50))⟩,
      ⟨(some 52), (some (51, false)), .f (.fadr 4 (.t 8))⟩,
      ⟨(some 53), (some (51, false)), .f (.ld (.t 52))⟩,
      ⟨(some 54), (some (51, false)), .f (.len (.t 53))⟩,
      ⟨(some 55), (some (51, false)), .f (.bin .geq (.t 54) (.c (.int .i64 8)))⟩,
      ⟨(some 56), none, .f (.pick (.t 51) (.c (.bool true)) (.t 55))⟩])
    (.cond (.t 56)
     (.exit 1)
     .skip))
    (.seq (.seq (.reg [
      ⟨(some 57), none, .f (.fadr 1 (.t 8))⟩,
      ⟨(some 58), none, .f (.ld (.t 57))⟩,
      ⟨(some 59), none, .f (.bin .neq (.t 58) (.c (.int .i64 0)))⟩,
      ⟨(some 60), none, .f (.mv (.t 59))⟩,
      ⟨(some 61), (some (60, false)), .f (.fadr 2 (.t 10))⟩,
      ⟨(some 62), (some (60, false)), .f (.ld (.t 61))⟩,
      ⟨(some 63), (some (60, false)), .f (.fadr 2 (.t 8))⟩,
      ⟨(some 64), (some (60, false)), .f (.ld (.t 63))⟩,
      ⟨(some 65), (some (60, false)), .f (.bin .lss (.t 62) (.t 64))⟩,
      ⟨(some 66), none, .f (.pick (.t 60) (.c (.bool true)) (.t 65))⟩])
    (.cond (.t 66)
     (.reg [
       ⟨(some 67), none, .f (.fadr 2 (.t 10))⟩,
       ⟨(some 68), none, .f (.ld (.t 67))⟩,
       ⟨(some 69), none, .f (.fadr 2 (.t 8))⟩,
       ⟨none, none, .x (.st 1 (.t 69) (.t 68))⟩])
     .skip))
    (.seq (.reg [
      ⟨(some 70), none, .f (.fadr 1 (.t 8))⟩,
      ⟨none, none, .x (.st 1 (.t 70) (.c (.int .i64 0)))⟩])
    (.reg [
      ⟨(some 71), none, .f (.fadr 4 (.t 8))⟩,
      ⟨(some 72), none, .f (.ld (.t 71))⟩,
      ⟨(some 73), none, .f (.fadr 1 (.t 10))⟩,
      ⟨(some 74), none, .f (.ld (.t 73))⟩,
      ⟨(some 75), none, .x (.bslice 2 1 [(.int .i64 0)] 1 [(0, (.t 74))])⟩,
      ⟨(some 76), none, .x (.app 2 1 8 (.t 72) (.t 75))⟩,
      ⟨(some 77), none, .f (.fadr 4 (.t 8))⟩,
      ⟨none, none, .x (.st 1 (.t 77) (.t 76))⟩]))))))
   (.reg [
     ⟨(some 28), none, .f (.mv (.t 9))⟩,
     ⟨(some 29), none, .f (.bin .add (.t 28) (.c (.int .i64 1)))⟩,
     ⟨(some 9), none, .f (.mv (.t 29))⟩]))))))
 (.seq (.reg [
   ⟨(some 78), none, .f (.ldA 5 (.t 8))⟩,
   ⟨(some 79), none, .x (.call 26 [(.t 78)])⟩,
   ⟨(some 80), none, .f (.ext 0 (.t 79))⟩,
   ⟨(some 81), none, .f (.ext 1 (.t 79))⟩,
   ⟨(some 4), none, .f (.mv (.t 80))⟩,
   ⟨(some 5), none, .f (.mv (.t 81))⟩])
 .ret))))))
theorem ok35 : fnComp Tryd.prog 35 = some (82, c35, [(.mv (.t 4)), (.mv (.t 5))]) := by kernel_rfl

/-- loop.example/g00003/laws.toNameEntryS -/
def c36 : CC :=
 (.seq (.reg [
   ⟨(some 2), none, .f (.mv (.c .nilslice))⟩])
 (.seq (.reg [
   ⟨(some 5), none, .f (.mv (.t 0))⟩,
   ⟨(some 6), none, .f (.len (.t 5))⟩,
   ⟨(some 7), none, .x (.mks 116 3 32 [(.str []), (.int .i64 0), (.int .i64 0)] (.t 6) (.t 6))⟩,
   ⟨(some 3), none, .f (.mv (.t 7))⟩])
 (.seq (.seq (.reg [
   ⟨(some 4), none, .f (.mv (.c (.int .i64 0)))⟩])
 (.block 0 (.loop (.seq (.seq (.reg [
     ⟨(some 8), none, .f (.mv (.t 4))⟩,
     ⟨(some 9), none, .f (.mv (.t 0))⟩,
     ⟨(some 10), none, .f (.len (.t 9))⟩,
     ⟨(some 11), none, .f (.bin .lss (.t 8) (.t 10))⟩])
   (.cond (.t 11)
    .skip
    (.exit 0)))
   (.seq (.block 1 (.reg [
      ⟨(some 14), none, .f (.mv (.t 3))⟩,
      ⟨(some 15), none, .f (.mv (.t 4))⟩,
      ⟨(some 16), none, .f (.mv (.t 0))⟩,
      ⟨(some 17), none, .f (.mv (.t 4))⟩,
      ⟨(some 18), none, .f (.iadr 3 (.t 16) (.t 17))⟩,
      ⟨(some 19), none, .f (.ldA 3 (.t 18))⟩,
      ⟨(some 20), none, .x (.call 79 [(.t 19)])⟩,
      ⟨(some 21), none, .f (.iadr 3 (.t 14) (.t 15))⟩,
      ⟨none, none, .x (.st 3 (.t 21) (.t 20))⟩]))
   (.reg [
     ⟨(some 12), none, .f (.mv (.t 4))⟩,
     ⟨(some 13), none, .f (.bin .add (.t 12) (.c (.int .i64 1)))⟩,
     ⟨(some 4), none, .f (.mv (.t 13))⟩]))))))
 (.seq (.reg [
   ⟨(some 22), none, .f (.mv (.t 3))⟩,
   ⟨(some 2), none, .f (.mv (.t 22))⟩])
 .ret))))
theorem ok36 : fnComp Tryd.prog 36 = some (23, c36, [(.mv (.t 2))]) := by kernel_rfl

/-- loop.example/g00003/impl.AnswerName -/
def c37 : CC :=
 (.seq (.reg [
   ⟨(some 4), none, .f (.mv (.c .nilslice))⟩,
   ⟨(some 5), none, .f (.mv (.c (.int .i64 0)))⟩])
 (.seq (.reg [
   ⟨(some 12), none, .f (.mv (.t 1))⟩,
   ⟨(some 13), none, .x (.call 23 [(.t 12)])⟩,
   ⟨(some 11), none, .f (.mv (.t 13))⟩,
   ⟨(some 14), none, .f (.ext 0 (.t 11))⟩,
   ⟨(some 15), none, .f (.ext 1 (.t 11))⟩,
   ⟨(some 6), none, .x (.zero 29 2 [(.int .i64 0), (.str [])])⟩,
   ⟨none, none, .x (.st 2 (.t 6) (.t 14))⟩,
   ⟨(some 7), none, .f (.mv (.t 15))⟩])
 (.seq (.seq (.reg [
   ⟨(some 16), none, .f (.mv (.t 7))⟩,
   ⟨(some 17), none, .f (.bin .neq (.t 16) (.c (.int .i64 0)))⟩])
 (.cond (.t 17)
  (.seq (.reg [
    ⟨(some 18), none, .f (.mv (.t 7))⟩,
    ⟨(some 4), none, .f (.mv (.c .nilslice))⟩,
    ⟨(some 5), none, .f (.mv (.t 18))⟩])
  .ret)
  .skip))
 (.seq (.reg [
   ⟨(some 19), none, .f (.fadr 0 (.t 6))⟩,
   ⟨(some 20), none, .f (.ld (.t 19))⟩,
   ⟨(some 21), none, .f (.fadr 1 (.t 6))⟩,
   ⟨(some 22), none, .f (.ld (.t 21))⟩,
   ⟨(some 23), none, .f (.build [(.int .i64 0), (.int .i64 0), (.int .i64 0), (.str []), .nilslice] [(0, 1, (.t 20)), (3, 1, (.t 22)), (1, 1, (.c (.int .i64 20))), (2, 1, (.c (.int .i64 10)))])⟩,
   ⟨(some 8), none, .x (.zero 44 5 [(.int .i64 0), (.int .i64 0), (.int .i64 0), (.str []), .nilslice])⟩,
   ⟨none, none, .x (.st 5 (.t 8) (.t 23))⟩])
 (.seq (.seq (.reg [
   ⟨(some 24), none, .f (.mv (.t 0))⟩,
   ⟨(some 25), none, .f (.len (.t 24))⟩,
   ⟨(some 26), none, .f (.mv (.c (.int .i64 0)))⟩])
 (.block 0 (.loop (.seq (.reg [
     ⟨(some 27), none, .f (.bin .lss (.t 26) (.t 25))⟩])
   (.seq (.cond (.t 27)
    .skip
    (.exit 0))
   (.seq (.block 1 (.seq (.reg [
      ⟨(some 28), none, .f (.iadr 3 (.t 24) (.t 26))⟩,
      ⟨(some 29), none, .f (.ldA 3 (.t 28))⟩,
      ⟨(some 10), none, .x (.zero 116 3 [(.str []), (.int .i64 0), (.int .i64 0)])⟩,
      ⟨none, none, .x (.st 3 (.t 10) (.t 29))⟩])
    (.seq (.seq (.reg [
      ⟨(some 30), none, .f (.fadr 0 (.t 10))⟩,
      ⟨(some 31), none, .f (.ld (.t 30))⟩,
      ⟨(some 32), none, .f (.fadr 1 (.t 6))⟩,
      ⟨(some 33), none, .f (.ld (.t 32))⟩,
      ⟨(some 34), none, .f (.bin .neq (.t 31) (.t 33))⟩,
      ⟨(some 35), none, .f (.mv (.t 34))⟩,
      ⟨(some 36), (some (35, false)), .f (.fadr 1 (.t 10))⟩,
      ⟨(some 37), (some (35, false)), .f (.ld (.t 36))⟩,
      ⟨(some 38), (some (35, false)), .x (.call 80 [(.t 37)])⟩,
      ⟨(some 39), (some (35, false)), .f (.un .not (.t 38))⟩,
      ⟨(some 40), none, .f (.pick (.t 35) (.c (.bool true)) (.t 39))⟩,
      ⟨(some 41), none, .f (.mv (.t 40))⟩,
      ⟨(some 42), (some (41, false)), .f (.fadr 2 (.t 10))⟩,
      ⟨(some 43), (some (41, false)), .f (.ld (.t 42))⟩,
      ⟨(some 44), (some (41, false)), .f (.bin .lss (.t 43) (.c (.int .i64 0)))⟩,
      ⟨(some 45), none, .f (.pick (.t 41) (.c (.bool true)) (.t 44))⟩,
      ⟨(some 46), none, .f (.mv (.t 45))⟩,
      ⟨(some 47), (some (46, false)), .f (.fadr 2 (.t 10))⟩,
      ⟨(some 48), (some (46, false)), .f (.ld (.t 47))⟩,
      ⟨(some 49), (some (46, false)), .f (.bin .gtr (.t 48) (.c (.int .i64 86400)))⟩,
      ⟨(some 50), none, .f (.pick (.t 46) (.c (.bool true)) (.t 49))⟩,
      ⟨(some 51), none, .f (.mv (.t 50))⟩,
      ⟨(some 52), (some (51, false)), .f (.fadr 4 (.t 8))⟩,
      ⟨(some 53), (some (51, false)), .f (.ld (.t 52))⟩,
      ⟨(some 54), (some (51, false)), .f (.len (.t 53))⟩,
      ⟨(some 55), (some (51, false)), .f (.bin .geq (.t 54) (.c (.int .i64 8)))⟩,
      ⟨(some 56), none, .f (.pick (.t 51) (.c (.bool true)) (.t 55))⟩])
    (.cond (.t 56)
     (.exit 1)
     .skip))
    (.seq (.seq (.reg [
      ⟨(some 57), none, .f (.fadr 1 (.t 8))⟩,
      ⟨(some 58), none, .f (.ld (.t 57))⟩,
      ⟨(some 59), none, .f (.bin .eql (.t 58) (.c (.int .i64 20)))⟩,
      ⟨(some 60), none, .f (.mv (.t 59))⟩,
      ⟨(some 61), (some (60, false)), .f (.fadr 2 (.t 10))⟩,
      ⟨(some 62), (some (60, false)), .f (.ld (.t 61))⟩,
      ⟨(some 63), (some (60, false)), .f (.fadr 2 (.t 8))⟩,
      ⟨(some 64), (some (60, false)), .f (.ld (.t 63))⟩,
      ⟨(some 65), (some (60, false)), .f (.bin .lss (.t 62) (.t 64))⟩,
      ⟨(some 66), none, .f (.pick (.t 60) (.c (.bool true)) (.t 65))⟩])
    (.cond (.t 66)
     (.reg [
       ⟨(some 67), none, .f (.fadr 2 (.t 10))⟩,
       ⟨(some 68), none, .f (.ld (.t 67))⟩,
       ⟨(some 69), none, .f (.fadr 2 (.t 8))⟩,
       ⟨none, none, .x (.st 1 (.t 69) (.t 68))⟩])
     .skip))
    (.seq (.reg [
      ⟨(some 70), none, .f (.fadr 1 (.t 8))⟩,
      ⟨none, none, .x (.st 1 (.t 70) (.c (.int .i64 0)))⟩])
    (.reg [
      ⟨(some 71), none, .f (.fadr 4 (.t 8))⟩,
      ⟨(some 72), none, .f (.ld (.t 71))⟩,
      ⟨(some 73), none, .f (.fadr 1 (.t 10))⟩,
      ⟨(some 74), none, .f (.ld (.t 73))⟩,
      ⟨(some 75), none, .x (.bslice 2 1 [(.int .i64 0)] 1 [(0, (.t 74))])⟩,
      ⟨(some 76), none, .x (.app 2 1 8 (.t 72) (.t 75))⟩,
      ⟨(some 77), none, .f (.fadr 4 (.t 8))⟩,
      ⟨none, none, .x (.st 1 (.t 77) (.t 76))⟩]))))))
   (.reg [
     ⟨(some 78), none, .f (.bin .add (.t 26) (.c (.int .i64 1)))⟩,
     ⟨(some 26), none, .f (.mv (.t 78))⟩])))))))
 (.seq (.reg [
   ⟨(some 79), none, .f (.ldA 5 (.t 8))⟩,
   ⟨(some 80), none, .x (.call 28 [(.t 79)])⟩,
   ⟨(some 81), none, .f (.ext 0 (.t 80))⟩,
   ⟨(some 82), none, .f (.ext 1 (.t 80))⟩,
   ⟨(some 4), none, .f (.mv (.t 81))⟩,
   ⟨(some 5), none, .f (.mv (.t 82))⟩])
 .ret))))))
theorem ok37 : fnComp Tryd.prog 37 = some (83, c37, [(.mv (.t 4)), (.mv (.t 5))]) := by kernel_rfl

/-- loop.example/g00003/laws.eqNameEntryS -/
def c38 : CC :=
 (.seq (.reg [
   ⟨(some 4), none, .f (.mv (.c (.bool false)))⟩])
 (.seq (.seq (.reg [
   ⟨(some 6), none, .f (.mv (.t 0))⟩,
   ⟨(some 7), none, .f (.len (.t 6))⟩,
   ⟨(some 8), none, .f (.mv (.t 1))⟩,
   ⟨(some 9), none, .f (.len (.t 8))⟩,
   ⟨(some 10), none, .f (.bin .neq (.t 7) (.t 9))⟩])
 (.cond (.t 10)
  (.seq (.reg [
    ⟨(some 4), none, .f (.mv (.c (.bool false)))⟩])
  .ret)
  .skip))
 (.seq (.seq (.reg [
   ⟨(some 5), none, .f (.mv (.c (.int .i64 0)))⟩])
 (.block 0 (.loop (.seq (.seq (.reg [
     ⟨(some 11), none, .f (.mv (.t 5))⟩,
     ⟨(some 12), none, .f (.mv (.t 0))⟩,
     ⟨(some 13), none, .f (.len (.t 12))⟩,
     ⟨(some 14), none, .f (.bin .lss (.t 11) (.t 13))⟩])
   (.cond (.t 14)
    .skip
    (.exit 0)))
   (.seq (.block 1 (.seq (.dreg [
      ⟨(some 17), none, .f (.mv (.t 0))⟩,
      ⟨(some 18), none, .f (.mv (.t 5))⟩,
      ⟨(some 19), none, .f (.iadr 3 (.t 17) (.t 18))⟩,
      ⟨(some 20), none, .f (.ldA 3 (.t 19))⟩,
      ⟨(some 21), none, .f (.mv (.t 1))⟩,
      ⟨(some 22), none, .f (.mv (.t 5))⟩,
      ⟨(some 23), none, .f (.iadr 3 (.t 21) (.t 22))⟩,
      ⟨(some 24), none, .f (.ldA 3 (.t 23))⟩,
      ⟨(some 25), none, .x (.call 81 [(.t 20), (.t 24)])⟩,
      ⟨(some 26), none, .f (.un .not (.t 25))⟩]
      [false, false, false, false, false, false, false, false, true, false] [[], [], [0, 1], [2, 0, 1], [], [], [4, 5], [6, 4, 5], [3, 2, 0, 1, 7, 6, 4, 5], [8, 3, 2, 0, 1, 7, 6, 4, 5]] [0, 1, 2, 3, 4, 5, 6, 7, 8, 9])
    (.cond (.t 26)
     (.seq (.reg [
       ⟨(some 4), none, .f (.mv (.c (.bool false)))⟩])
     .ret)
     .skip)))
   (.reg [
     ⟨(some 15), none, .f (.mv (.t 5))⟩,
     ⟨(some 16), none, .f (.bin .add (.t 15) (.c (.int .i64 1)))⟩,
     ⟨(some 5), none, .f (.mv (.t 16))⟩]))))))
 (.seq (.reg [
   ⟨(some 4), none, .f (.mv (.c (.bool true)))⟩])
 .ret))))
theorem ok38 : fnComp Tryd.prog 38 = some (27, c38, [(.mv (.t 4))]) := by kernel_rfl

/-- loop.example/g00003/laws.markNameEntryS -/
def c39 : CC :=
 (.seq (.reg [
   ⟨(some 4), none, .f (.mv (.c (.int .i64 0)))⟩])
 (.seq (.seq (.reg [
   ⟨(some 5), none, .f (.mv (.c (.int .i64 0)))⟩])
 (.block 0 (.loop (.seq (.seq (.reg [
     ⟨(some 6), none, .f (.mv (.t 5))⟩,
     ⟨(some 7), none, .f (.mv (.t 0))⟩,
     ⟨(some 8), none, .f (.len (.t 7))⟩,
     ⟨(some 9), none, .f (.bin .lss (.t 6) (.t 8))⟩])
   (.cond (.t 9)
    .skip
    (.exit 0)))
   (.seq (.block 1 (.seq (.reg [
      ⟨(some 12), none, .f (.mv (.t 0))⟩,
      ⟨(some 13), none, .f (.mv (.t 5))⟩,
      ⟨(some 14), none, .f (.mv (.t 1))⟩,
      ⟨(some 15), none, .x (.call 82 [(.t 14)])⟩,
      ⟨(some 16), none, .f (.iadr 3 (.t 12) (.t 13))⟩,
      ⟨(some 17), none, .f (.fadr 0 (.t 16))⟩,
      ⟨none, none, .x (.st 1 (.t 17) (.t 15))⟩])
    (.seq (.reg [
      ⟨(some 18), none, .f (.mv (.t 1))⟩,
      ⟨(some 19), none, .f (.bin .add (.t 18) (.c (.int .i64 1)))⟩,
      ⟨(some 1), none, .f (.mv (.t 19))⟩])
    (.seq (.reg [
      ⟨(some 20), none, .f (.mv (.t 0))⟩,
      ⟨(some 21), none, .f (.mv (.t 5))⟩,
      ⟨(some 22), none, .f (.mv (.t 1))⟩,
      ⟨(some 23), none, .f (.iadr 3 (.t 20) (.t 21))⟩,
      ⟨(some 24), none, .f (.fadr 1 (.t 23))⟩,
      ⟨none, none, .x (.st 1 (.t 24) (.t 22))⟩])
    (.seq (.reg [
      ⟨(some 25), none, .f (.mv (.t 1))⟩,
      ⟨(some 26), none, .f (.bin .add (.t 25) (.c (.int .i64 1)))⟩,
      ⟨(some 1), none, .f (.mv (.t 26))⟩])
    (.seq (.reg [
      ⟨(some 27), none, .f (.mv (.t 0))⟩,
      ⟨(some 28), none, .f (.mv (.t 5))⟩,
      ⟨(some 29), none, .f (.mv (.t 1))⟩,
      ⟨(some 30), none, .f (.iadr 3 (.t 27) (.t 28))⟩,
      ⟨(some 31), none, .f (.fadr 2 (.t 30))⟩,
      ⟨none, none, .x (.st 1 (.t 31) (.t 29))⟩])
    (.reg [
      ⟨(some 32), none, .f (.mv (.t 1))⟩,
      ⟨(some 33), none, .f (.bin .add (.t 32) (.c (.int .i64 1)))⟩,
      ⟨(some 1), none, .f (.mv (.t 33))⟩])))))))
   (.reg [
     ⟨(some 10), none, .f (.mv (.t 5))⟩,
     ⟨(some 11), none, .f (.bin .add (.t 10) (.c (.int .i64 1)))⟩,
     ⟨(some 5), none, .f (.mv (.t 11))⟩]))))))
 (.seq (.reg [
   ⟨(some 34), none, .f (.mv (.t 1))⟩,
   ⟨(some 4), none, .f (.mv (.t 34))⟩])
 .ret)))
theorem ok39 : fnComp Tryd.prog 39 = some (35, c39, [(.mv (.t 4))]) := by kernel_rfl

/-- loop.example/g00003/laws.szNameEntry -/
def c76 : CC :=
 (.seq (.reg [
   ⟨(some 2), none, .x (.box 115 3 (.t 0))⟩,
   ⟨(some 4), none, .f (.mv (.c (.int .i64 0)))⟩])
 (.seq (.reg [
   ⟨(some 5), none, .f (.mv (.t 1))⟩,
   ⟨(some 6), none, .f (.fadr 0 (.t 2))⟩,
   ⟨(some 7), none, .f (.ld (.t 6))⟩,
   ⟨(some 8), none, .f (.lenS (.t 7))⟩,
   ⟨(some 9), none, .f (.bin .sub (.t 5) (.t 8))⟩,
   ⟨(some 1), none, .f (.mv (.t 9))⟩])
 (.seq (.seq (.reg [
   ⟨(some 10), none, .f (.mv (.t 1))⟩,
   ⟨(some 11), none, .f (.bin .lss (.t 10) (.c (.int .i64 0)))⟩])
 (.cond (.t 11)
  (.seq (.reg [
    ⟨(some 4), none, .f (.mv (.c (.int .i64 (-1))))⟩])
  .ret)
  .skip))
 (.seq (.reg [
   ⟨(some 12), none, .f (.mv (.t 1))⟩,
   ⟨(some 4), none, .f (.mv (.t 12))⟩])
 .ret))))
theorem ok76 : fnComp Tryd.prog 76 = some (13, c76, [(.mv (.t 4))]) := by kernel_rfl

/-- loop.example/g00003/laws.toNameEntry -/
def c79 : CC :=
 (.seq (.reg [
   ⟨(some 1), none, .x (.box 115 3 (.t 0))⟩,
   ⟨(some 2), none, .x (.zero 116 3 [(.str []), (.int .i64 0), (.int .i64 0)])⟩])
 (.seq (.reg [
   ⟨(some 3), none, .x (.zero 116 3 [(.str []), (.int .i64 0), (.int .i64 0)])⟩])
 (.seq (.reg [
   ⟨(some 4), none, .f (.fadr 0 (.t 1))⟩,
   ⟨(some 5), none, .f (.ld (.t 4))⟩,
   ⟨(some 6), none, .f (.fadr 0 (.t 3))⟩,
   ⟨none, none, .x (.st 1 (.t 6) (.t 5))⟩])
 (.seq (.reg [
   ⟨(some 7), none, .f (.fadr 1 (.t 1))⟩,
   ⟨(some 8), none, .f (.ld (.t 7))⟩,
   ⟨(some 9), none, .f (.fadr 1 (.t 3))⟩,
   ⟨none, none, .x (.st 1 (.t 9) (.t 8))⟩])
 (.seq (.reg [
   ⟨(some 10), none, .f (.fadr 2 (.t 1))⟩,
   ⟨(some 11), none, .f (.ld (.t 10))⟩,
   ⟨(some 12), none, .f (.fadr 2 (.t 3))⟩,
   ⟨none, none, .x (.st 1 (.t 12) (.t 11))⟩])
 (.seq (.reg [
   ⟨(some 13), none, .f (.ldA 3 (.t 3))⟩,
   ⟨none, none, .x (.st 3 (.t 2) (.t 13))⟩])
 .ret))))))
theorem ok79 : fnComp Tryd.prog 79 = some (14, c79, [(.ldA 3 (.t 2))]) := by kernel_rfl

/-- loop.example/g00003/laws.eqNameEntry -/
def c81 : CC :=
 (.seq (.reg [
   ⟨(some 2), none, .x (.box 116 3 (.t 0))⟩,
   ⟨(some 3), none, .x (.box 116 3 (.t 1))⟩,
   ⟨(some 4), none, .f (.mv (.c (.bool false)))⟩])
 (.seq (.seq (.reg [
   ⟨(some 5), none, .f (.fadr 0 (.t 2))⟩,
   ⟨(some 6), none, .f (.ld (.t 5))⟩,
   ⟨(some 7), none, .f (.fadr 0 (.t 3))⟩,
   ⟨(some 8), none, .f (.ld (.t 7))⟩,
   ⟨(some 9), none, .f (.bin .neq (.t 6) (.t 8))⟩])
 (.cond (.t 9)
  (.seq (.reg [
    ⟨(some 4), none, .f (.mv (.c (.bool false)))⟩])
  .ret)
  .skip))
 (.seq (.seq (.reg [
   ⟨(some 10), none, .f (.fadr 1 (.t 2))⟩,
   ⟨(some 11), none, .f (.ld (.t 10))⟩,
   ⟨(some 12), none, .f (.fadr 1 (.t 3))⟩,
   ⟨(some 13), none, .f (.ld (.t 12))⟩,
   ⟨(some 14), none, .f (.bin .neq (.t 11) (.t 13))⟩])
 (.cond (.t 14)
  (.seq (.reg [
    ⟨(some 4), none, .f (.mv (.c (.bool false)))⟩])
  .ret)
  .skip))
 (.seq (.seq (.reg [
   ⟨(some 15), none, .f (.fadr 2 (.t 2))⟩,
   ⟨(some 16), none, .f (.ld (.t 15))⟩,
   ⟨(some 17), none, .f (.fadr 2 (.t 3))⟩,
   ⟨(some 18), none, .f (.ld (.t 17))⟩,
   ⟨(some 19), none, .f (.bin .neq (.t 16) (.t 18))⟩])
 (.cond (.t 19)
  (.seq (.reg [
    ⟨(some 4), none, .f (.mv (.c (.bool false)))⟩])
  .ret)
  .skip))
 (.seq (.reg [
   ⟨(some 4), none, .f (.mv (.c (.bool true)))⟩])
 .ret)))))
theorem ok81 : fnComp Tryd.prog 81 = some (20, c81, [(.mv (.t 4))]) := by kernel_rfl

end Go.Proofs.YtcmcfmgabafljaaDoor

namespace Go.Proofs.YtcmcfmgabafljaaDoor
open Go Go.IW

def sRow (s : List UInt8) : List IV := [.str s]

set_option maxRecDepth 20000 in
theorem idxB_c (h : IH) (s : List UInt8) (c : UInt8) : ICalls Tryd.prog 172 [.str s, .int .u8 c.toNat] h fun r h' => r = .int .i64 (Lib.indexByte s c) ∧ h' = h := by
  have := idxByte_calls (P := Tryd.prog) (f := 172) Tryd.func172 (by kernel_rfl) (by kernel_rfl) (by kernel_rfl) (by kernel_rfl) h s c.toNat
  simpa using this
set_option maxRecDepth 20000 in
theorem cntB_c (h : IH) (s : List UInt8) (c : UInt8) : ICalls Tryd.prog 145 [.str s, .int .u8 c.toNat] h fun r h' => r = .int .i64 (s.count c : Nat) ∧ h' = h := by
  have := cntByte_calls (P := Tryd.prog) (f := 145) Tryd.func145 (by kernel_rfl) (by kernel_rfl) (by kernel_rfl) (by kernel_rfl) h s c.toNat
  simpa [Lib.countByte] using this

theorem idxS_at {s : List UInt8} {k : Nat} {q : IntKind} {b : UInt8} (hb : s[k]? = some b) : idxSF (.str s) (.int q (k : Int)) = some (.int .u8 b.toNat) :=
  idxSF_of (by omega) (by simpa using hb)

set_option maxRecDepth 20000 in
theorem sIndexByte_c (h : IH) (s : List UInt8) (c : UInt8) : ICalls Tryd.prog 155 [.str s, .int .u8 c.toNat] h fun r h' => r = .int .i64 (Lib.indexByte s c) ∧ h' = h := by
  refine icalls (.of ok155) (Nat.le_of_ble_eq_true rfl) ?_
  unfold c155
  simp only [go_sem, Hold.p, HoldK.k, HoldL.K, HoldL.body, Nat.reduceBEq, Nat.reduceAdd, List.getElem?_cons_zero, List.getElem?_cons_succ, Option.bind_some, List.map_cons, List.map_nil, Nat.zero_add, if_true, List.getD_cons_zero, List.getD_cons_succ, List.contains_cons, List.contains_nil, Nat.reduceBEq, Bool.or_true, Bool.true_or, Bool.or_false, Bool.false_or, Bool.not_true, Bool.not_false, true_and, and_true]
  refine callA_of (idxB_c h s c) ?_
  rintro r h' ⟨rfl, rfl⟩
  simp only [go_sem, Hold.p, HoldK.k, HoldL.K, HoldL.body, Nat.reduceBEq, Nat.reduceAdd, List.getElem?_cons_zero, List.getElem?_cons_succ, Option.bind_some, List.map_cons, List.map_nil, Nat.zero_add, if_true, List.getD_cons_zero, List.getD_cons_succ, List.contains_cons, List.contains_nil, Nat.reduceBEq, Bool.or_true, Bool.true_or, Bool.or_false, Bool.false_or, Bool.not_true, Bool.not_false, true_and, and_true]

set_option maxRecDepth 20000 in
theorem sIndex_c (h : IH) (s : List UInt8) (c : UInt8) : ICalls Tryd.prog 146 [.str s, .str [c]] h fun r h' => r = .int .i64 (Lib.indexByte s c) ∧ h' = h := by
  refine icalls (.of ok146) (Nat.le_of_ble_eq_true rfl) ?_
  unfold c146
  have d0 : decide ((([c] : List UInt8).length : Int) = 0) = false := rfl
  have d1 : decide ((([c] : List UInt8).length : Int) = 1) = true := rfl
  have hi : idxSF (.str [c]) (.int .i64 0) = some (.int .u8 c.toNat) := rfl
  simp only [d0, d1, hi, go_sem, Hold.p, HoldK.k, HoldL.K, HoldL.body, Nat.reduceBEq, Nat.reduceAdd, List.getElem?_cons_zero, List.getElem?_cons_succ, Option.bind_some, List.map_cons, List.map_nil, Nat.zero_add, if_true, List.getD_cons_zero, List.getD_cons_succ, List.contains_cons, List.contains_nil, Nat.reduceBEq, Bool.or_true, Bool.true_or, Bool.or_false, Bool.false_or, Bool.not_true, Bool.not_false, true_and, and_true]
  by_cases hc : ([c] : List UInt8) = s
  · have hd : decide (([c] : List UInt8) = s) = true := by simpa using hc
    simp only [hd, go_sem, Hold.p, HoldK.k, HoldL.K, HoldL.body, Nat.reduceBEq, Nat.reduceAdd, List.getElem?_cons_zero, List.getElem?_cons_succ, Option.bind_some, List.map_cons, List.map_nil, Nat.zero_add, if_true, List.getD_cons_zero, List.getD_cons_succ, List.contains_cons, List.contains_nil, Nat.reduceBEq, Bool.or_true, Bool.true_or, Bool.or_false, Bool.false_or, Bool.not_true, Bool.not_false, true_and, and_true]
    subst hc
    simp [Lib.indexByte]
  · have hd : decide (([c] : List UInt8) = s) = false := by simpa using hc
    simp only [hd, d1, hi, go_sem, Hold.p, HoldK.k, HoldL.K, HoldL.body, Nat.reduceBEq, Nat.reduceAdd, List.getElem?_cons_zero, List.getElem?_cons_succ, Option.bind_some, List.map_cons, List.map_nil, Nat.zero_add, if_true, List.getD_cons_zero, List.getD_cons_succ, List.contains_cons, List.contains_nil, Nat.reduceBEq, Bool.or_true, Bool.true_or, Bool.or_false, Bool.false_or, Bool.not_true, Bool.not_false, true_and, and_true]
    refine callA_of (sIndexByte_c h s c) ?_
    rintro r h' ⟨rfl, rfl⟩
    simp only [go_sem, Hold.p, HoldK.k, HoldL.K, HoldL.body, Nat.reduceBEq, Nat.reduceAdd, List.getElem?_cons_zero, List.getElem?_cons_succ, Option.bind_some, List.map_cons, List.map_nil, Nat.zero_add, if_true, List.getD_cons_zero, List.getD_cons_succ, List.contains_cons, List.contains_nil, Nat.reduceBEq, Bool.or_true, Bool.true_or, Bool.or_false, Bool.false_or, Bool.not_true, Bool.not_false, true_and, and_true]

set_option maxRecDepth 20000 in
theorem index_c (h : IH) (s : List UInt8) (c : UInt8) : ICalls Tryd.prog 132 [.str s, .str [c]] h fun r h' => r = .int .i64 (Lib.indexByte s c) ∧ h' = h := by
  refine icalls (.of ok132) (Nat.le_of_ble_eq_true rfl) ?_
  unfold c132
  simp only [go_sem, Hold.p, HoldK.k, HoldL.K, HoldL.body, Nat.reduceBEq, Nat.reduceAdd, List.getElem?_cons_zero, List.getElem?_cons_succ, Option.bind_some, List.map_cons, List.map_nil, Nat.zero_add, if_true, List.getD_cons_zero, List.getD_cons_succ, List.contains_cons, List.contains_nil, Nat.reduceBEq, Bool.or_true, Bool.true_or, Bool.or_false, Bool.false_or, Bool.not_true, Bool.not_false, true_and, and_true]
  refine callA_of (sIndex_c h s c) ?_
  rintro r h' ⟨rfl, rfl⟩
  simp only [go_sem, Hold.p, HoldK.k, HoldL.K, HoldL.body, Nat.reduceBEq, Nat.reduceAdd, List.getElem?_cons_zero, List.getElem?_cons_succ, Option.bind_some, List.map_cons, List.map_nil, Nat.zero_add, if_true, List.getD_cons_zero, List.getD_cons_succ, List.contains_cons, List.contains_nil, Nat.reduceBEq, Bool.or_true, Bool.true_or, Bool.or_false, Bool.false_or, Bool.not_true, Bool.not_false, true_and, and_true]

set_option maxRecDepth 20000 in
theorem count_c (h : IH) (s : List UInt8) (c : UInt8) : ICalls Tryd.prog 131 [.str s, .str [c]] h fun r h' => r = .int .i64 (s.count c : Nat) ∧ h' = h := by
  refine icalls (.of ok131) (Nat.le_of_ble_eq_true rfl) ?_
  unfold c131
  have d0 : decide ((([c] : List UInt8).length : Int) = 0) = false := rfl
  have d1 : decide ((([c] : List UInt8).length : Int) = 1) = true := rfl
  have hi : idxSF (.str [c]) (.int .i64 0) = some (.int .u8 c.toNat) := rfl
  simp only [d0, d1, hi, go_sem, Hold.p, HoldK.k, HoldL.K, HoldL.body, Nat.reduceBEq, Nat.reduceAdd, List.getElem?_cons_zero, List.getElem?_cons_succ, Option.bind_some, List.map_cons, List.map_nil, Nat.zero_add, if_true, List.getD_cons_zero, List.getD_cons_succ, List.contains_cons, List.contains_nil, Nat.reduceBEq, Bool.or_true, Bool.true_or, Bool.or_false, Bool.false_or, Bool.not_true, Bool.not_false, true_and, and_true]
  refine callA_of (cntB_c h s c) ?_
  rintro r h' ⟨rfl, rfl⟩
  simp only [go_sem, Hold.p, HoldK.k, HoldL.K, HoldL.body, Nat.reduceBEq, Nat.reduceAdd, List.getElem?_cons_zero, List.getElem?_cons_succ, Option.bind_some, List.map_cons, List.map_nil, Nat.zero_add, if_true, List.getD_cons_zero, List.getD_cons_succ, List.contains_cons, List.contains_nil, Nat.reduceBEq, Bool.or_true, Bool.true_or, Bool.or_false, Bool.false_or, Bool.not_true, Bool.not_false, true_and, and_true]

theorem count_le_len (c : UInt8) (s : List UInt8) : s.count c ≤ s.length := List.count_le_length

set_option maxRecDepth 20000 in
theorem genSplit_c (h : IH) (s : List UInt8) (c : UInt8) (hm : s.length ≤ 1048576) : ICalls Tryd.prog 106 [.str s, .str [c], .int .i64 0, .int .i64 (-1)] h fun r h' => SlR h' 1 r ((cutAt c s).map sRow) ∧ Ext h h' := by
  refine icalls (.of ok106) (Nat.le_of_ble_eq_true rfl) ?_
  unfold c106
  have hcl := count_le_len c s
  have d0 : decide ((-1 : Int) = 0) = false := rfl
  have d1 : decide (([c] : List UInt8) = []) = false := by simp
  have d2 : decide ((-1 : Int) < 0) = true := rfl
  simp only [d0, d1, d2, go_sem, Hold.p, HoldK.k, HoldL.K, HoldL.body, Nat.reduceBEq, Nat.reduceAdd, List.getElem?_cons_zero, List.getElem?_cons_succ, Option.bind_some, List.map_cons, List.map_nil, Nat.zero_add, if_true, List.getD_cons_zero, List.getD_cons_succ, List.contains_cons, List.contains_nil, Nat.reduceBEq, Bool.or_true, Bool.true_or, Bool.or_false, Bool.false_or, Bool.not_true, Bool.not_false, true_and, and_true]
  refine callA_of (count_c h s c) ?_
  rintro r h' ⟨rfl, rfl⟩
  have w1 : wr .i64 ((s.count c : Int) + 1) = ((s.count c + 1 : Nat) : Int) := by rw [wr64 _ (by omega)]; rfl
  have w2 : wr .i64 ((s.length : Int) + 1) = ((s.length + 1 : Nat) : Int) := by rw [wr64 _ (by omega)]; rfl
  have hmin : min ((s.count c + 1 : Nat) : Int) ((s.length + 1 : Nat) : Int) = ((s.count c + 1 : Nat) : Int) := by omega
  have w3 : wr .i64 (((s.count c + 1 : Nat) : Int) - 1) = ((s.count c : Nat) : Int) := by rw [wr64 _ (by omega)]; omega
  simp only [w1, w2, hmin, go_sem, Hold.p, HoldK.k, HoldL.K, HoldL.body, Nat.reduceBEq, Nat.reduceAdd, List.getElem?_cons_zero, List.getElem?_cons_succ, Option.bind_some, List.map_cons, List.map_nil, Nat.zero_add, if_true, List.getD_cons_zero, List.getD_cons_succ, List.contains_cons, List.contains_nil, Nat.reduceBEq, Bool.or_true, Bool.true_or, Bool.or_false, Bool.false_or, Bool.not_true, Bool.not_false, true_and, and_true]
  refine mksA_of (by omega) (by omega) (by omega) ?_
  simp only [w3, go_sem, Hold.p, HoldK.k, HoldL.K, HoldL.body, Nat.reduceBEq, Nat.reduceAdd, List.getElem?_cons_zero, List.getElem?_cons_succ, Option.bind_some, List.map_cons, List.map_nil, Nat.zero_add, if_true, List.getD_cons_zero, List.getD_cons_succ, List.contains_cons, List.contains_nil, Nat.reduceBEq, Bool.or_true, Bool.true_or, Bool.or_false, Bool.false_or, Bool.not_true, Bool.not_false, true_and, and_true, rowA_whole, push_n, set_n, push_obj, set_obj, set_push, set_push_ne, set_set, Nat.add_assoc, Nat.left_eq_add, Nat.add_eq_left, Nat.add_left_cancel_iff, Nat.reduceEqDiff, stO_1s, stO_ws, boxA_s, one_bool, one_int, one_str, one_ptr, one_nilptr, one_slice, one_eslice, one_nilslice, one_func, one_iface, one_niliface, List.all_cons, List.all_nil, List.length_cons, List.length_nil, Nat.reduceLT, Nat.reduceEqDiff, Nat.reduceLeDiff, Bool.and_true, Nat.one_ne_zero, Nat.succ_ne_zero, reduceIte, if_false, List.getElem?_cons_zero, List.set_cons_zero, List.set_cons_succ]
  generalize hq_g0 : IH.push h' (IObj.rows (List.replicate (s.count c + 1) [IV.str []]) 9 1 false) = g0
  have e_g0 : Ext h' g0 := by rw [← hq_g0]; exact (Ext.refl _).push _
  have l_g0 : g0.n = h'.n + 1 := by rw [← hq_g0]; rfl
  have ba : At g0 h'.n (IObj.rows (List.replicate (s.count c + 1) [IV.str []]) 9 1 false) := by rw [← hq_g0]; exact At.new _ _
  clear hq_g0
  refine loop_at (fun n e g => ∃ (t : List UInt8) (done : List (List UInt8)), n = t.count c ∧ cutAt c s = done ++ cutAt c t ∧ done.length + t.count c = s.count c ∧ t.length ≤ s.length ∧ e 0 = .str t ∧ e 1 = .str [c] ∧ e 2 = .int .i64 0 ∧ e 3 = .int .i64 (s.count c : Nat) ∧
    e 9 = .slice h'.n 0 (s.count c + 1) ∧ e 10 = .int .i64 (done.length : Nat) ∧ Ext h' g ∧ At g h'.n (.rows (done.map sRow ++ List.replicate (s.count c + 1 - done.length) [IV.str []]) 9 1 false)) (s.count c) ?_ ?_
  · refine ⟨s, [], rfl, rfl, by simp, Nat.le_refl _, ?_⟩
    simp only [go_sem, Hold.p, HoldK.k, HoldL.K, HoldL.body, Nat.reduceBEq, Nat.reduceAdd, List.getElem?_cons_zero, List.getElem?_cons_succ, Option.bind_some, List.map_cons, List.map_nil, Nat.zero_add, if_true, List.getD_cons_zero, List.getD_cons_succ, List.contains_cons, List.contains_nil, Nat.reduceBEq, Bool.or_true, Bool.true_or, Bool.or_false, Bool.false_or, Bool.not_true, Bool.not_false, true_and, and_true, rowA_whole, push_n, set_n, push_obj, set_obj, set_push, set_push_ne, set_set, Nat.add_assoc, Nat.left_eq_add, Nat.add_eq_left, Nat.add_left_cancel_iff, Nat.reduceEqDiff, stO_1s, stO_ws, boxA_s, one_bool, one_int, one_str, one_ptr, one_nilptr, one_slice, one_eslice, one_nilslice, one_func, one_iface, one_niliface, List.all_cons, List.all_nil, List.length_cons, List.length_nil, Nat.reduceLT, Nat.reduceEqDiff, Nat.reduceLeDiff, Bool.and_true, Nat.one_ne_zero, Nat.succ_ne_zero, reduceIte, if_false, List.getElem?_cons_zero, List.set_cons_zero, List.set_cons_succ]
    exact ⟨rfl, e_g0, ba⟩
  · rintro n e g ⟨t, done, rfl, hcut, hcnt, htl, i0, i1, i2, i3, i9, i10, E, ba⟩
    have bae := ba.eq
    have bal := ba.lt
    simp only [i0, i1, i2, i3, i9, i10, go_sem, Hold.p, HoldK.k, HoldL.K, HoldL.body, Nat.reduceBEq, Nat.reduceAdd, List.getElem?_cons_zero, List.getElem?_cons_succ, Option.bind_some, List.map_cons, List.map_nil, Nat.zero_add, if_true, List.getD_cons_zero, List.getD_cons_succ, List.contains_cons, List.contains_nil, Nat.reduceBEq, Bool.or_true, Bool.true_or, Bool.or_false, Bool.false_or, Bool.not_true, Bool.not_false, true_and, and_true, rowA_whole, push_n, set_n, push_obj, set_obj, set_push, set_push_ne, set_set, Nat.add_assoc, Nat.left_eq_add, Nat.add_eq_left, Nat.add_left_cancel_iff, Nat.reduceEqDiff, stO_1s, stO_ws, boxA_s, one_bool, one_int, one_str, one_ptr, one_nilptr, one_slice, one_eslice, one_nilslice, one_func, one_iface, one_niliface, List.all_cons, List.all_nil, List.length_cons, List.length_nil, Nat.reduceLT, Nat.reduceEqDiff, Nat.reduceLeDiff, Bool.and_true, Nat.one_ne_zero, Nat.succ_ne_zero, reduceIte, if_false, List.getElem?_cons_zero, List.set_cons_zero, List.set_cons_succ]
    have fin : t.count c = 0 → Lib.indexByte t c = -1 → True := fun _ _ => trivial
    refine test_dec (fun hlt => ?_) (fun hlt => ?_)
    · have hpos : 0 < t.count c := by omega
      simp only [i0, i1, i2, i3, i9, i10, go_sem, Hold.p, HoldK.k, HoldL.K, HoldL.body, Nat.reduceBEq, Nat.reduceAdd, List.getElem?_cons_zero, List.getElem?_cons_succ, Option.bind_some, List.map_cons, List.map_nil, Nat.zero_add, if_true, List.getD_cons_zero, List.getD_cons_succ, List.contains_cons, List.contains_nil, Nat.reduceBEq, Bool.or_true, Bool.true_or, Bool.or_false, Bool.false_or, Bool.not_true, Bool.not_false, true_and, and_true, rowA_whole, push_n, set_n, push_obj, set_obj, set_push, set_push_ne, set_set, Nat.add_assoc, Nat.left_eq_add, Nat.add_eq_left, Nat.add_left_cancel_iff, Nat.reduceEqDiff, stO_1s, stO_ws, boxA_s, one_bool, one_int, one_str, one_ptr, one_nilptr, one_slice, one_eslice, one_nilslice, one_func, one_iface, one_niliface, List.all_cons, List.all_nil, List.length_cons, List.length_nil, Nat.reduceLT, Nat.reduceEqDiff, Nat.reduceLeDiff, Bool.and_true, Nat.one_ne_zero, Nat.succ_ne_zero, reduceIte, if_false, List.getElem?_cons_zero, List.set_cons_zero, List.set_cons_succ]
      refine callA_of (index_c g t c) ?_
      rintro r g' ⟨rfl, rfl⟩
      have hne : Lib.indexByte t c ≠ -1 := by
        intro h0
        have := cutAt_len c t
        rw [cutAt_none c h0] at this
        simp at this
        omega
      have hge := Lib.indexByte_ge t c
      obtain ⟨m, hidx⟩ : ∃ m : Nat, Lib.indexByte t c = m := ⟨(Lib.indexByte t c).toNat, by omega⟩
      obtain ⟨hml, hc2, hc3⟩ := cutAt_some c hidx
      have dm : decide ((m : Int) < 0) = false := by simp
      have w4 : wr .i64 ((m : Int) + 0) = (m : Int) := by rw [wr64 _ (by omega)]; omega
      have w5 : wr .i64 ((m : Int) + 1) = ((m + 1 : Nat) : Int) := by rw [wr64 _ (by omega)]; rfl
      have hs1 : slcSF (.str t) none (some (.int .i64 (m : Int))) = some (.str (t.take m)) := by
        rw [slcSF_of (boundF_of (by omega) (by omega)) rfl]; simp
      have hs2 : slcSF (.str t) (some (.int .i64 ((m + 1 : Nat) : Int))) none = some (.str (t.drop (m + 1))) := by
        rw [slcSF_of rfl (boundF_of (by omega) (by omega))]; simp
      have w6 : wr .i64 ((m : Int) + ((1 : Nat) : Int)) = ((m + 1 : Nat) : Int) := w5
      simp only [i0, i1, i2, i3, i9, i10, hidx, dm, w4, w5, hs1, hs2, w6, iadrF_sl, bae, iadrO_nat (show done.length < s.count c + 1 by omega), Option.map_some, Option.map_none, go_sem, Hold.p, HoldK.k, HoldL.K, HoldL.body, Nat.reduceBEq, Nat.reduceAdd, List.getElem?_cons_zero, List.getElem?_cons_succ, Option.bind_some, List.map_cons, List.map_nil, Nat.zero_add, if_true, List.getD_cons_zero, List.getD_cons_succ, List.contains_cons, List.contains_nil, Nat.reduceBEq, Bool.or_true, Bool.true_or, Bool.or_false, Bool.false_or, Bool.not_true, Bool.not_false, true_and, and_true, rowA_whole, push_n, set_n, push_obj, set_obj, set_push, set_push_ne, set_set, Nat.add_assoc, Nat.left_eq_add, Nat.add_eq_left, Nat.add_left_cancel_iff, Nat.reduceEqDiff, stO_1s, stO_ws, boxA_s, one_bool, one_int, one_str, one_ptr, one_nilptr, one_slice, one_eslice, one_nilslice, one_func, one_iface, one_niliface, List.all_cons, List.all_nil, List.length_cons, List.length_nil, Nat.reduceLT, Nat.reduceEqDiff, Nat.reduceLeDiff, Bool.and_true, Nat.one_ne_zero, Nat.succ_ne_zero, reduceIte, if_false, List.getElem?_cons_zero, List.set_cons_zero, List.set_cons_succ]
      refine stO_of (k := 0) (cs := [IV.str (t.take m)]) (row := [IV.str []]) ?_ rfl (by simp) (by simp [IV.one]) ?_
      · rw [List.getElem?_append_right (by simp), List.length_map, Nat.sub_self, List.getElem?_replicate, if_pos (by omega)]
      have hw : wrt [IV.str []] 0 [IV.str (t.take m)] = [IV.str (t.take m)] := rfl
      rw [hw]
      simp only [hidx, dm, w4, w5, hs1, hs2, w6, i0, i1, i2, i3, i9, i10, Option.map_some, Option.map_none, go_sem, Hold.p, HoldK.k, HoldL.K, HoldL.body, Nat.reduceBEq, Nat.reduceAdd, List.getElem?_cons_zero, List.getElem?_cons_succ, Option.bind_some, List.map_cons, List.map_nil, Nat.zero_add, if_true, List.getD_cons_zero, List.getD_cons_succ, List.contains_cons, List.contains_nil, Nat.reduceBEq, Bool.or_true, Bool.true_or, Bool.or_false, Bool.false_or, Bool.not_true, Bool.not_false, true_and, and_true, rowA_whole, push_n, set_n, push_obj, set_obj, set_push, set_push_ne, set_set, Nat.add_assoc, Nat.left_eq_add, Nat.add_eq_left, Nat.add_left_cancel_iff, Nat.reduceEqDiff, stO_1s, stO_ws, boxA_s, one_bool, one_int, one_str, one_ptr, one_nilptr, one_slice, one_eslice, one_nilslice, one_func, one_iface, one_niliface, List.all_cons, List.all_nil, List.length_cons, List.length_nil, Nat.reduceLT, Nat.reduceEqDiff, Nat.reduceLeDiff, Bool.and_true, Nat.one_ne_zero, Nat.succ_ne_zero, reduceIte, if_false, List.getElem?_cons_zero, List.set_cons_zero, List.set_cons_succ]
      refine ⟨_, ?_, t.drop (m + 1), done ++ [t.take m], rfl, ?_, ?_, ?_, rfl, ?_, ?_⟩
      · omega
      · rw [hcut, hc2]; simp
      · simp; omega
      · simp; omega
      · congr 2
        rw [wr64 _ (by omega)]; simp
      · exact ⟨E.set _ (by omega) _, by
          have e1 : (List.map sRow done ++ List.replicate (List.count c s + 1 - done.length) [IV.str []]).set done.length [IV.str (t.take m)] = List.map sRow (done ++ [t.take m]) ++ List.replicate (List.count c s + 1 - (done ++ [t.take m]).length) [IV.str []] := by
            obtain ⟨k, hk⟩ : ∃ k, List.count c s + 1 - done.length = k + 1 := ⟨List.count c s - done.length, by omega⟩
            have hk2 : List.count c s + 1 - (done ++ [t.take m]).length = k := by simp; omega
            rw [hk, hk2, List.set_append_right _ _ (by simp)]
            simp [List.replicate_succ, sRow]
          rw [← e1]
          exact ba.here⟩
    · have h0 : t.count c = 0 := by omega
      have hidx : Lib.indexByte t c = -1 := by
        have hge := Lib.indexByte_ge t c
        apply Classical.byContradiction
        intro hne
        obtain ⟨m, hm2⟩ : ∃ m : Nat, Lib.indexByte t c = m := ⟨(Lib.indexByte t c).toNat, by omega⟩
        have := (cutAt_some c hm2).2.2
        omega
      have hct := cutAt_none c hidx
      have hdl : done.length = s.count c := by omega
      have w4 : wr .i64 (((s.count c : Nat) : Int) + 1) = ((s.count c + 1 : Nat) : Int) := by rw [wr64 _ (by omega)]; rfl
      rw [hdl] at i10 bae
      have hsub : s.count c + 1 - s.count c = 1 := by omega
      rw [hsub] at bae
      simp only [i0, i1, i2, i3, i9, i10, iadrF_sl, bae, iadrO_nat (show s.count c < s.count c + 1 by omega), go_sem, Hold.p, HoldK.k, HoldL.K, HoldL.body, Nat.reduceBEq, Nat.reduceAdd, List.getElem?_cons_zero, List.getElem?_cons_succ, Option.bind_some, List.map_cons, List.map_nil, Nat.zero_add, if_true, List.getD_cons_zero, List.getD_cons_succ, List.contains_cons, List.contains_nil, Nat.reduceBEq, Bool.or_true, Bool.true_or, Bool.or_false, Bool.false_or, Bool.not_true, Bool.not_false, true_and, and_true, rowA_whole, push_n, set_n, push_obj, set_obj, set_push, set_push_ne, set_set, Nat.add_assoc, Nat.left_eq_add, Nat.add_eq_left, Nat.add_left_cancel_iff, Nat.reduceEqDiff, stO_1s, stO_ws, boxA_s, one_bool, one_int, one_str, one_ptr, one_nilptr, one_slice, one_eslice, one_nilslice, one_func, one_iface, one_niliface, List.all_cons, List.all_nil, List.length_cons, List.length_nil, Nat.reduceLT, Nat.reduceEqDiff, Nat.reduceLeDiff, Bool.and_true, Nat.one_ne_zero, Nat.succ_ne_zero, reduceIte, if_false, List.getElem?_cons_zero, List.set_cons_zero, List.set_cons_succ]
      refine stO_of (k := 0) (cs := [IV.str t]) (row := [IV.str []]) ?_ rfl (by simp) (by simp [IV.one]) ?_
      · rw [List.getElem?_append_right (by simp; omega)]; simp [hdl]
      have hw : wrt [IV.str []] 0 [IV.str t] = [IV.str t] := rfl
      have e1 : (List.map sRow done ++ List.replicate 1 [IV.str []]).set (s.count c) [IV.str t] = (cutAt c s).map sRow := by
        rw [hcut, hct, List.set_append_right _ _ (by simp; omega)]
        simp [hdl, sRow]
      have hlen : ((cutAt c s).map sRow).length = s.count c + 1 := by rw [List.length_map, cutAt_len]
      rw [hw, e1]
      have hsl : ∀ hh : IH, hh.obj h'.n = .rows ((cutAt c s).map sRow) 9 1 false → slcF hh 1 (.slice h'.n 0 (s.count c + 1)) none (some (.int .i64 ((s.count c + 1 : Nat) : Int))) = some (.slice h'.n 0 (s.count c + 1)) := by
        intro hh ho
        rw [slcF_of (n := s.count c + 1) (a := 0) (b := s.count c + 1) hh rfl (by rw [boundF_of (by omega) (by omega)]; simp) rfl, islc_some hh (by omega) (Nat.le_refl _) (by rw [size_eq, ho]; rfl)]
        simp
      have hsl1 := hsl (g.set h'.n (.rows ((cutAt c s).map sRow) 9 1 false)) (set_here _ _ _)
      simp only [i0, i1, i2, i3, i9, i10, w4, hsl1, Option.map_some, Option.map_none, go_sem, Hold.p, HoldK.k, HoldL.K, HoldL.body, Nat.reduceBEq, Nat.reduceAdd, List.getElem?_cons_zero, List.getElem?_cons_succ, Option.bind_some, List.map_cons, List.map_nil, Nat.zero_add, if_true, List.getD_cons_zero, List.getD_cons_succ, List.contains_cons, List.contains_nil, Nat.reduceBEq, Bool.or_true, Bool.true_or, Bool.or_false, Bool.false_or, Bool.not_true, Bool.not_false, true_and, and_true, rowA_whole, push_n, set_n, push_obj, set_obj, set_push, set_push_ne, set_set, Nat.add_assoc, Nat.left_eq_add, Nat.add_eq_left, Nat.add_left_cancel_iff, Nat.reduceEqDiff, stO_1s, stO_ws, boxA_s, one_bool, one_int, one_str, one_ptr, one_nilptr, one_slice, one_eslice, one_nilslice, one_func, one_iface, one_niliface, List.all_cons, List.all_nil, List.length_cons, List.length_nil, Nat.reduceLT, Nat.reduceEqDiff, Nat.reduceLeDiff, Bool.and_true, Nat.one_ne_zero, Nat.succ_ne_zero, reduceIte, if_false, List.getElem?_cons_zero, List.set_cons_zero, List.set_cons_succ]
      exact ⟨SlR.whole (set_here _ _ _) hlen (by simp only [set_n]; omega), E.set _ (by omega) _⟩

set_option maxRecDepth 20000 in
theorem split_c (h : IH) (s : List UInt8) (c : UInt8) (hm : s.length ≤ 1048576) : ICalls Tryd.prog 59 [.str s, .str [c]] h fun r h' => SlR h' 1 r ((cutAt c s).map sRow) ∧ Ext h h' := by
  refine icalls (.of ok59) (Nat.le_of_ble_eq_true rfl) ?_
  unfold c59
  simp only [go_sem, Hold.p, HoldK.k, HoldL.K, HoldL.body, Nat.reduceBEq, Nat.reduceAdd, List.getElem?_cons_zero, List.getElem?_cons_succ, Option.bind_some, List.map_cons, List.map_nil, Nat.zero_add, if_true, List.getD_cons_zero, List.getD_cons_succ, List.contains_cons, List.contains_nil, Nat.reduceBEq, Bool.or_true, Bool.true_or, Bool.or_false, Bool.false_or, Bool.not_true, Bool.not_false, true_and, and_true]
  refine callA_of (genSplit_c h s c hm) ?_
  rintro r h' ⟨hs, hE⟩
  simp only [go_sem, Hold.p, HoldK.k, HoldL.K, HoldL.body, Nat.reduceBEq, Nat.reduceAdd, List.getElem?_cons_zero, List.getElem?_cons_succ, Option.bind_some, List.map_cons, List.map_nil, Nat.zero_add, if_true, List.getD_cons_zero, List.getD_cons_succ, List.contains_cons, List.contains_nil, Nat.reduceBEq, Bool.or_true, Bool.true_or, Bool.or_false, Bool.false_or, Bool.not_true, Bool.not_false, true_and, and_true]
  exact ⟨hs, hE⟩

set_option maxRecDepth 20000 in
theorem l02Cut_c (h : IH) (s : List UInt8) (c : UInt8) (hm : s.length ≤ 1048576) : ICalls Tryd.prog 57 [.str s, .int .u8 c.toNat] h fun r h' => SlR h' 1 r ((cutAt c s).map sRow) ∧ Ext h h' := by
  refine icalls (.of ok57) (Nat.le_of_ble_eq_true rfl) ?_
  unfold c57
  simp only [go_sem, Hold.p, HoldK.k, HoldL.K, HoldL.body, Nat.reduceBEq, Nat.reduceAdd, List.getElem?_cons_zero, List.getElem?_cons_succ, Option.bind_some, List.map_cons, List.map_nil, Nat.zero_add, if_true, List.getD_cons_zero, List.getD_cons_succ, List.contains_cons, List.contains_nil, Nat.reduceBEq, Bool.or_true, Bool.true_or, Bool.or_false, Bool.false_or, Bool.not_true, Bool.not_false, true_and, and_true]
  refine loop_at (fun n e g => ∃ (k from_ : Nat) (v : IV) (lo hi : Nat) (out : List (List UInt8)), n = s.length - k ∧ k ≤ s.length ∧ from_ ≤ k ∧ e 0 = .str s ∧ e 1 = .int .u8 c.toNat ∧ e 5 = v ∧ e 6 = .int .i64 (from_ : Nat) ∧ e 7 = .int .i64 (k : Nat) ∧
    Ext h g ∧ h.n ≤ lo ∧ Own lo hi g 9 1 v (out.map sRow) ∧ hi ≤ g.n ∧ out.length ≤ k ∧ cutAt c (s.take k) = out ++ [(s.take k).drop from_]) s.length ?_ ?_
  · refine ⟨0, 0, .eslice true, h.n, h.n, [], by omega, by omega, by omega, ?_⟩
    simp only [go_sem, Hold.p, HoldK.k, HoldL.K, HoldL.body, Nat.reduceBEq, Nat.reduceAdd, List.getElem?_cons_zero, List.getElem?_cons_succ, Option.bind_some, List.map_cons, List.map_nil, Nat.zero_add, if_true, List.getD_cons_zero, List.getD_cons_succ, List.contains_cons, List.contains_nil, Nat.reduceBEq, Bool.or_true, Bool.true_or, Bool.or_false, Bool.false_or, Bool.not_true, Bool.not_false, true_and, and_true, rowA_whole, push_n, set_n, push_obj, set_obj, set_push, set_push_ne, set_set, Nat.add_assoc, Nat.left_eq_add, Nat.add_eq_left, Nat.add_left_cancel_iff, Nat.reduceEqDiff, stO_1s, stO_ws, boxA_s, one_bool, one_int, one_str, one_ptr, one_nilptr, one_slice, one_eslice, one_nilslice, one_func, one_iface, one_niliface, List.all_cons, List.all_nil, List.length_cons, List.length_nil, Nat.reduceLT, Nat.reduceEqDiff, Nat.reduceLeDiff, Bool.and_true, Nat.one_ne_zero, Nat.succ_ne_zero, reduceIte, if_false, List.getElem?_cons_zero, List.set_cons_zero, List.set_cons_succ]
    exact ⟨rfl, rfl, Ext.refl _, Nat.le_refl _, Own.empty, Nat.le_refl _, by simp [cutAt]⟩
  · rintro n e g ⟨k, from_, v, lo, hi, out, rfl, hk, hf, i0, i1, i5, i6, i7, E, hlo, o, hhi, hol, hcut⟩
    have hle := E.le
    simp only [i0, i1, i5, i6, i7, go_sem, Hold.p, HoldK.k, HoldL.K, HoldL.body, Nat.reduceBEq, Nat.reduceAdd, List.getElem?_cons_zero, List.getElem?_cons_succ, Option.bind_some, List.map_cons, List.map_nil, Nat.zero_add, if_true, List.getD_cons_zero, List.getD_cons_succ, List.contains_cons, List.contains_nil, Nat.reduceBEq, Bool.or_true, Bool.true_or, Bool.or_false, Bool.false_or, Bool.not_true, Bool.not_false, true_and, and_true, rowA_whole, push_n, set_n, push_obj, set_obj, set_push, set_push_ne, set_set, Nat.add_assoc, Nat.left_eq_add, Nat.add_eq_left, Nat.add_left_cancel_iff, Nat.reduceEqDiff, stO_1s, stO_ws, boxA_s, one_bool, one_int, one_str, one_ptr, one_nilptr, one_slice, one_eslice, one_nilslice, one_func, one_iface, one_niliface, List.all_cons, List.all_nil, List.length_cons, List.length_nil, Nat.reduceLT, Nat.reduceEqDiff, Nat.reduceLeDiff, Bool.and_true, Nat.one_ne_zero, Nat.succ_ne_zero, reduceIte, if_false, List.getElem?_cons_zero, List.set_cons_zero, List.set_cons_succ]
    refine test_dec (fun hlt => ?_) (fun hlt => ?_)
    · have hlt' : k < s.length := by omega
      have hkp : s[k]? = some s[k] := List.getElem?_eq_getElem hlt'
      generalize s[k] = b at hkp
      have hix := idxS_at (q := .i64) hkp
      have hn := cutAt_snoc c (s.take k) out _ b hcut
      have htk : s.take k ++ [b] = s.take (k + 1) := by rw [List.take_add_one, hkp]; rfl
      rw [htk] at hn
      by_cases hb : b = c
      · subst hb
        have w1 : wr .i64 ((k : Int) + 1) = ((k + 1 : Nat) : Int) := by rw [wr64 _ (by omega)]; rfl
        have hs1 : slcSF (.str s) (some (.int .i64 (from_ : Int))) (some (.int .i64 (k : Int))) = some (.str ((s.take k).drop from_)) := by
          rw [slcSF_of (boundF_of (by omega) (by omega)) (boundF_of (by omega) (by simp; omega))]; simp
        simp only [i0, i1, i5, i6, i7, hix, decide_true, hs1, w1, Option.map_some, Option.map_none, go_sem, Hold.p, HoldK.k, HoldL.K, HoldL.body, Nat.reduceBEq, Nat.reduceAdd, List.getElem?_cons_zero, List.getElem?_cons_succ, Option.bind_some, List.map_cons, List.map_nil, Nat.zero_add, if_true, List.getD_cons_zero, List.getD_cons_succ, List.contains_cons, List.contains_nil, Nat.reduceBEq, Bool.or_true, Bool.true_or, Bool.or_false, Bool.false_or, Bool.not_true, Bool.not_false, true_and, and_true, rowA_whole, push_n, set_n, push_obj, set_obj, set_push, set_push_ne, set_set, Nat.add_assoc, Nat.left_eq_add, Nat.add_eq_left, Nat.add_left_cancel_iff, Nat.reduceEqDiff, stO_1s, stO_ws, boxA_s, one_bool, one_int, one_str, one_ptr, one_nilptr, one_slice, one_eslice, one_nilslice, one_func, one_iface, one_niliface, List.all_cons, List.all_nil, List.length_cons, List.length_nil, Nat.reduceLT, Nat.reduceEqDiff, Nat.reduceLeDiff, Bool.and_true, Nat.one_ne_zero, Nat.succ_ne_zero, reduceIte, if_false, List.getElem?_cons_zero, List.set_cons_zero, List.set_cons_succ]
        generalize hq_g1 : IH.push g (IObj.rows [[IV.str ((s.take k).drop from_)]] 9 1 false) = g1
        have e_g1 : Ext g g1 := by rw [← hq_g1]; exact (Ext.refl _).push _
        have l_g1 : g1.n = g.n + 1 := by rw [← hq_g1]; rfl
        have ba : At g1 g.n (IObj.rows [[IV.str ((s.take k).drop from_)]] 9 1 false) := by rw [← hq_g1]; exact At.new _ _
        clear hq_g1
        have o := o.ext e_g1
        have E := E.ext e_g1
        refine o.app (by simp) (by simp; omega) ?_
        intro v6 h6 o6 t6 n6 v6o v6c
        have E := E.turn o (by omega) t6
        have le_t6 := t6.le
        simp only [i0, i1, i5, i6, i7, w1, go_sem, Hold.p, HoldK.k, HoldL.K, HoldL.body, Nat.reduceBEq, Nat.reduceAdd, List.getElem?_cons_zero, List.getElem?_cons_succ, Option.bind_some, List.map_cons, List.map_nil, Nat.zero_add, if_true, List.getD_cons_zero, List.getD_cons_succ, List.contains_cons, List.contains_nil, Nat.reduceBEq, Bool.or_true, Bool.true_or, Bool.or_false, Bool.false_or, Bool.not_true, Bool.not_false, true_and, and_true, rowA_whole, push_n, set_n, push_obj, set_obj, set_push, set_push_ne, set_set, Nat.add_assoc, Nat.left_eq_add, Nat.add_eq_left, Nat.add_left_cancel_iff, Nat.reduceEqDiff, stO_1s, stO_ws, boxA_s, one_bool, one_int, one_str, one_ptr, one_nilptr, one_slice, one_eslice, one_nilslice, one_func, one_iface, one_niliface, List.all_cons, List.all_nil, List.length_cons, List.length_nil, Nat.reduceLT, Nat.reduceEqDiff, Nat.reduceLeDiff, Bool.and_true, Nat.one_ne_zero, Nat.succ_ne_zero, reduceIte, if_false, List.getElem?_cons_zero, List.set_cons_zero, List.set_cons_succ]
        rw [if_pos (by simp)] at hn
        refine ⟨_, ?_, k + 1, k + 1, v6, g1.n, g1.n + 1, out ++ [(s.take k).drop from_], rfl, by omega, Nat.le_refl _, rfl, rfl, rfl, E, by omega, by simpa [sRow] using o6, by omega, by simp; omega, ?_⟩
        · omega
        · rw [hn]; simp
      · have hb2 : decide ((b.toNat : Int) = (c.toNat : Int)) = false := by
          simp only [decide_eq_false_iff_not]
          intro h0
          exact hb (UInt8.toNat_inj.1 (by omega))
        simp only [i0, i1, i5, i6, i7, hix, hb2, go_sem, Hold.p, HoldK.k, HoldL.K, HoldL.body, Nat.reduceBEq, Nat.reduceAdd, List.getElem?_cons_zero, List.getElem?_cons_succ, Option.bind_some, List.map_cons, List.map_nil, Nat.zero_add, if_true, List.getD_cons_zero, List.getD_cons_succ, List.contains_cons, List.contains_nil, Nat.reduceBEq, Bool.or_true, Bool.true_or, Bool.or_false, Bool.false_or, Bool.not_true, Bool.not_false, true_and, and_true, rowA_whole, push_n, set_n, push_obj, set_obj, set_push, set_push_ne, set_set, Nat.add_assoc, Nat.left_eq_add, Nat.add_eq_left, Nat.add_left_cancel_iff, Nat.reduceEqDiff, stO_1s, stO_ws, boxA_s, one_bool, one_int, one_str, one_ptr, one_nilptr, one_slice, one_eslice, one_nilslice, one_func, one_iface, one_niliface, List.all_cons, List.all_nil, List.length_cons, List.length_nil, Nat.reduceLT, Nat.reduceEqDiff, Nat.reduceLeDiff, Bool.and_true, Nat.one_ne_zero, Nat.succ_ne_zero, reduceIte, if_false, List.getElem?_cons_zero, List.set_cons_zero, List.set_cons_succ]
        rw [if_neg (by simpa using hb)] at hn
        refine ⟨_, ?_, k + 1, from_, v, lo, hi, out, rfl, by omega, by omega, rfl, rfl, wr64_succ k (by omega), E, hlo, o, hhi, by omega, ?_⟩
        · omega
        · rw [hn]
          congr 2
          rw [← htk, List.drop_append_of_le_length (by simp; omega)]
    · obtain rfl : k = s.length := by omega
      rw [List.take_length] at hcut
      have hs1 : slcSF (.str s) (some (.int .i64 (from_ : Int))) none = some (.str (s.drop from_)) := by
        rw [slcSF_of rfl (boundF_of (by omega) (by omega))]; simp
      simp only [i0, i1, i5, i6, i7, hs1, Option.map_some, Option.map_none, go_sem, Hold.p, HoldK.k, HoldL.K, HoldL.body, Nat.reduceBEq, Nat.reduceAdd, List.getElem?_cons_zero, List.getElem?_cons_succ, Option.bind_some, List.map_cons, List.map_nil, Nat.zero_add, if_true, List.getD_cons_zero, List.getD_cons_succ, List.contains_cons, List.contains_nil, Nat.reduceBEq, Bool.or_true, Bool.true_or, Bool.or_false, Bool.false_or, Bool.not_true, Bool.not_false, true_and, and_true, rowA_whole, push_n, set_n, push_obj, set_obj, set_push, set_push_ne, set_set, Nat.add_assoc, Nat.left_eq_add, Nat.add_eq_left, Nat.add_left_cancel_iff, Nat.reduceEqDiff, stO_1s, stO_ws, boxA_s, one_bool, one_int, one_str, one_ptr, one_nilptr, one_slice, one_eslice, one_nilslice, one_func, one_iface, one_niliface, List.all_cons, List.all_nil, List.length_cons, List.length_nil, Nat.reduceLT, Nat.reduceEqDiff, Nat.reduceLeDiff, Bool.and_true, Nat.one_ne_zero, Nat.succ_ne_zero, reduceIte, if_false, List.getElem?_cons_zero, List.set_cons_zero, List.set_cons_succ]
      generalize hq_g1 : IH.push g (IObj.rows [[IV.str (s.drop from_)]] 9 1 false) = g1
      have e_g1 : Ext g g1 := by rw [← hq_g1]; exact (Ext.refl _).push _
      have l_g1 : g1.n = g.n + 1 := by rw [← hq_g1]; rfl
      have ba : At g1 g.n (IObj.rows [[IV.str (s.drop from_)]] 9 1 false) := by rw [← hq_g1]; exact At.new _ _
      clear hq_g1
      have o := o.ext e_g1
      have E := E.ext e_g1
      refine o.app (by simp) (by simp; omega) ?_
      intro v6 h6 o6 t6 n6 v6o v6c
      have E := E.turn o (by omega) t6
      have le_t6 := t6.le
      simp only [go_sem, Hold.p, HoldK.k, HoldL.K, HoldL.body, Nat.reduceBEq, Nat.reduceAdd, List.getElem?_cons_zero, List.getElem?_cons_succ, Option.bind_some, List.map_cons, List.map_nil, Nat.zero_add, if_true, List.getD_cons_zero, List.getD_cons_succ, List.contains_cons, List.contains_nil, Nat.reduceBEq, Bool.or_true, Bool.true_or, Bool.or_false, Bool.false_or, Bool.not_true, Bool.not_false, true_and, and_true, rowA_whole, push_n, set_n, push_obj, set_obj, set_push, set_push_ne, set_set, Nat.add_assoc, Nat.left_eq_add, Nat.add_eq_left, Nat.add_left_cancel_iff, Nat.reduceEqDiff, stO_1s, stO_ws, boxA_s, one_bool, one_int, one_str, one_ptr, one_nilptr, one_slice, one_eslice, one_nilslice, one_func, one_iface, one_niliface, List.all_cons, List.all_nil, List.length_cons, List.length_nil, Nat.reduceLT, Nat.reduceEqDiff, Nat.reduceLeDiff, Bool.and_true, Nat.one_ne_zero, Nat.succ_ne_zero, reduceIte, if_false, List.getElem?_cons_zero, List.set_cons_zero, List.set_cons_succ]
      refine ⟨?_, E⟩
      rw [hcut]
      simpa [sRow] using o6.sl
end Go.Proofs.YtcmcfmgabafljaaDoor

namespace Go.Proofs.YtcmcfmgabafljaaDoor
open Go Go.IW

/-- A byte of a label. -/
def okC (b : UInt8) : Bool := (decide (97 ≤ (b.toNat : Int)) && decide ((b.toNat : Int) ≤ 122)) || (decide (48 ≤ (b.toNat : Int)) && decide ((b.toNat : Int) ≤ 57)) || decide ((b.toNat : Int) = 45)
theorem class6 (b : UInt8) : (b.toNat : Int) = 45 ∨ ((b.toNat : Int) < 48 ∧ (b.toNat : Int) ≠ 45) ∨ (48 ≤ (b.toNat : Int) ∧ (b.toNat : Int) ≤ 57) ∨ (58 ≤ (b.toNat : Int) ∧ (b.toNat : Int) < 97) ∨ (97 ≤ (b.toNat : Int) ∧ (b.toNat : Int) ≤ 122) ∨ 122 < (b.toNat : Int) := by omega
/-- The ends of a label. -/
def ends (s : List UInt8) : Bool := decide (((s.getD 0 0).toNat : Int) = 45) || decide (((s.getD (s.length - 1) 0).toNat : Int) = 45)
def okLabel (s : List UInt8) : Bool := decide (1 ≤ s.length) && decide (s.length ≤ 20) && !ends s && s.all okC
def okName (s : List UInt8) : Bool := decide (s.length ≤ 63) && (cutAt 46 s).all okLabel
theorem take_all {α : Type} {p : α → Bool} {s : List α} {k : Nat} {b : α} (hk : s[k]? = some b) (h : (s.take k).all p = true) : (s.take (k + 1)).all p = p b := by
  rw [List.take_add_one, hk, List.all_append, h]; simp
theorem not_all {α : Type} {p : α → Bool} {s : List α} {k : Nat} {b : α} (hk : s[k]? = some b) (h : p b = false) : s.all p = false := by
  rw [List.all_eq_false]
  exact ⟨b, List.mem_of_getElem? hk, by simp [h]⟩
theorem label_short {s : List UInt8} (h : s.length < 1 ∨ 20 < s.length) : okLabel s = false := by
  unfold okLabel
  rcases h with h | h
  · have : decide (1 ≤ s.length) = false := decide_eq_false (by omega)
    rw [this]; rfl
  · have : decide (s.length ≤ 20) = false := decide_eq_false (by omega)
    rw [this]; simp
theorem label_long {s : List UInt8} (h1 : ¬ s.length < 1) (h2 : ¬ 20 < s.length) : okLabel s = (!ends s && s.all okC) := by
  unfold okLabel
  have e1 : decide (1 ≤ s.length) = true := decide_eq_true (by omega)
  have e2 : decide (s.length ≤ 20) = true := decide_eq_true (by omega)
  rw [e1, e2]; rfl

set_option maxRecDepth 20000 in
theorem l19Label_c (h : IH) (s : List UInt8) : ICalls Tryd.prog 58 [.str s] h fun r h' => r = .bool (okLabel s) ∧ h' = h := by
  refine icalls (.of ok58) (Nat.le_of_ble_eq_true rfl) ?_
  unfold c58
  by_cases c1 : s.length < 1
  · have d1 : decide ((s.length : Int) < 1) = true := decide_eq_true (by omega)
    simp only [d1, go_sem, Hold.p, HoldK.k, HoldL.K, HoldL.body, Nat.reduceBEq, Nat.reduceAdd, List.getElem?_cons_zero, List.getElem?_cons_succ, Option.bind_some, List.map_cons, List.map_nil, Nat.zero_add, if_true, List.getD_cons_zero, List.getD_cons_succ, List.contains_cons, List.contains_nil, Nat.reduceBEq, Bool.or_true, Bool.true_or, Bool.or_false, Bool.false_or, Bool.not_true, Bool.not_false, true_and, and_true, rowA_whole, push_n, set_n, push_obj, set_obj, set_push, set_push_ne, set_set, Nat.add_assoc, Nat.left_eq_add, Nat.add_eq_left, Nat.add_left_cancel_iff, Nat.reduceEqDiff, stO_1s, stO_ws, boxA_s, one_bool, one_int, one_str, one_ptr, one_nilptr, one_slice, one_eslice, one_nilslice, one_func, one_iface, one_niliface, List.all_cons, List.all_nil, List.length_cons, List.length_nil, Nat.reduceLT, Nat.reduceEqDiff, Nat.reduceLeDiff, Bool.and_true, Nat.one_ne_zero, Nat.succ_ne_zero, reduceIte, if_false, List.getElem?_cons_zero, List.set_cons_zero, List.set_cons_succ]
    rw [label_short (.inl c1)]
  · have d1 : decide ((s.length : Int) < 1) = false := decide_eq_false (by omega)
    by_cases c2 : 20 < s.length
    · have d2 : decide (20 < (s.length : Int)) = true := decide_eq_true (by omega)
      simp only [d1, d2, go_sem, Hold.p, HoldK.k, HoldL.K, HoldL.body, Nat.reduceBEq, Nat.reduceAdd, List.getElem?_cons_zero, List.getElem?_cons_succ, Option.bind_some, List.map_cons, List.map_nil, Nat.zero_add, if_true, List.getD_cons_zero, List.getD_cons_succ, List.contains_cons, List.contains_nil, Nat.reduceBEq, Bool.or_true, Bool.true_or, Bool.or_false, Bool.false_or, Bool.not_true, Bool.not_false, true_and, and_true, rowA_whole, push_n, set_n, push_obj, set_obj, set_push, set_push_ne, set_set, Nat.add_assoc, Nat.left_eq_add, Nat.add_eq_left, Nat.add_left_cancel_iff, Nat.reduceEqDiff, stO_1s, stO_ws, boxA_s, one_bool, one_int, one_str, one_ptr, one_nilptr, one_slice, one_eslice, one_nilslice, one_func, one_iface, one_niliface, List.all_cons, List.all_nil, List.length_cons, List.length_nil, Nat.reduceLT, Nat.reduceEqDiff, Nat.reduceLeDiff, Bool.and_true, Nat.one_ne_zero, Nat.succ_ne_zero, reduceIte, if_false, List.getElem?_cons_zero, List.set_cons_zero, List.set_cons_succ]
      rw [label_short (.inr c2)]
    · have d2 : decide (20 < (s.length : Int)) = false := decide_eq_false (by omega)
      rw [label_long c1 c2]
      have g0 : s[0]? = some (s.getD 0 0) := by rw [List.getD_eq_getElem?_getD, List.getElem?_eq_getElem (by omega)]; rfl
      have g1 : s[s.length - 1]? = some (s.getD (s.length - 1) 0) := by rw [List.getD_eq_getElem?_getD, List.getElem?_eq_getElem (by omega)]; rfl
      have x0 : idxSF (.str s) (.int .i64 0) = some (.int .u8 (s.getD 0 0).toNat) := by simpa using idxS_at (q := .i64) g0
      have w1 : wr .i64 ((s.length : Int) - 1) = ((s.length - 1 : Nat) : Int) := by rw [wr64 _ (by omega)]; omega
      have x1 := idxS_at (q := .i64) g1
      unfold ends
      cases d3 : decide (((s.getD 0 0).toNat : Int) = 45)
      · cases d4 : decide (((s.getD (s.length - 1) 0).toNat : Int) = 45)
        · simp only [d1, d2, x0, w1, x1, d3, d4, go_sem, Hold.p, HoldK.k, HoldL.K, HoldL.body, Nat.reduceBEq, Nat.reduceAdd, List.getElem?_cons_zero, List.getElem?_cons_succ, Option.bind_some, List.map_cons, List.map_nil, Nat.zero_add, if_true, List.getD_cons_zero, List.getD_cons_succ, List.contains_cons, List.contains_nil, Nat.reduceBEq, Bool.or_true, Bool.true_or, Bool.or_false, Bool.false_or, Bool.not_true, Bool.not_false, true_and, and_true, rowA_whole, push_n, set_n, push_obj, set_obj, set_push, set_push_ne, set_set, Nat.add_assoc, Nat.left_eq_add, Nat.add_eq_left, Nat.add_left_cancel_iff, Nat.reduceEqDiff, stO_1s, stO_ws, boxA_s, one_bool, one_int, one_str, one_ptr, one_nilptr, one_slice, one_eslice, one_nilslice, one_func, one_iface, one_niliface, List.all_cons, List.all_nil, List.length_cons, List.length_nil, Nat.reduceLT, Nat.reduceEqDiff, Nat.reduceLeDiff, Bool.and_true, Nat.one_ne_zero, Nat.succ_ne_zero, reduceIte, if_false, List.getElem?_cons_zero, List.set_cons_zero, List.set_cons_succ]
          refine loop_at (fun n e h' => ∃ k, n = s.length - k ∧ k ≤ s.length ∧ e 0 = .str s ∧ e 3 = .int .i64 (k : Nat) ∧ h' = h ∧ (s.take k).all okC = true) s.length ?_ ?_
          · refine ⟨0, by omega, by omega, ?_⟩
            simp only [go_sem, Hold.p, HoldK.k, HoldL.K, HoldL.body, Nat.reduceBEq, Nat.reduceAdd, List.getElem?_cons_zero, List.getElem?_cons_succ, Option.bind_some, List.map_cons, List.map_nil, Nat.zero_add, if_true, List.getD_cons_zero, List.getD_cons_succ, List.contains_cons, List.contains_nil, Nat.reduceBEq, Bool.or_true, Bool.true_or, Bool.or_false, Bool.false_or, Bool.not_true, Bool.not_false, true_and, and_true, rowA_whole, push_n, set_n, push_obj, set_obj, set_push, set_push_ne, set_set, Nat.add_assoc, Nat.left_eq_add, Nat.add_eq_left, Nat.add_left_cancel_iff, Nat.reduceEqDiff, stO_1s, stO_ws, boxA_s, one_bool, one_int, one_str, one_ptr, one_nilptr, one_slice, one_eslice, one_nilslice, one_func, one_iface, one_niliface, List.all_cons, List.all_nil, List.length_cons, List.length_nil, Nat.reduceLT, Nat.reduceEqDiff, Nat.reduceLeDiff, Bool.and_true, Nat.one_ne_zero, Nat.succ_ne_zero, reduceIte, if_false, List.getElem?_cons_zero, List.set_cons_zero, List.set_cons_succ]
            exact ⟨rfl, by simp⟩
          · rintro n e h' ⟨k, rfl, hk, i0, i3, rfl, hall⟩
            simp only [i0, i3, go_sem, Hold.p, HoldK.k, HoldL.K, HoldL.body, Nat.reduceBEq, Nat.reduceAdd, List.getElem?_cons_zero, List.getElem?_cons_succ, Option.bind_some, List.map_cons, List.map_nil, Nat.zero_add, if_true, List.getD_cons_zero, List.getD_cons_succ, List.contains_cons, List.contains_nil, Nat.reduceBEq, Bool.or_true, Bool.true_or, Bool.or_false, Bool.false_or, Bool.not_true, Bool.not_false, true_and, and_true, rowA_whole, push_n, set_n, push_obj, set_obj, set_push, set_push_ne, set_set, Nat.add_assoc, Nat.left_eq_add, Nat.add_eq_left, Nat.add_left_cancel_iff, Nat.reduceEqDiff, stO_1s, stO_ws, boxA_s, one_bool, one_int, one_str, one_ptr, one_nilptr, one_slice, one_eslice, one_nilslice, one_func, one_iface, one_niliface, List.all_cons, List.all_nil, List.length_cons, List.length_nil, Nat.reduceLT, Nat.reduceEqDiff, Nat.reduceLeDiff, Bool.and_true, Nat.one_ne_zero, Nat.succ_ne_zero, reduceIte, if_false, List.getElem?_cons_zero, List.set_cons_zero, List.set_cons_succ]
            refine test_dec (fun hlt => ?_) (fun hlt => ?_)
            · have hlt' : k < s.length := by omega
              have hkp : s[k]? = some s[k] := List.getElem?_eq_getElem hlt'
              generalize s[k] = b at hkp
              have hix := idxS_at (q := .i64) hkp
              rcases class6 b with hc | hc | hc | hc | hc | hc
              · have q1 : decide ((b.toNat : Int) < 97) = true := decide_eq_true (by omega)
                have q2 : decide (122 < (b.toNat : Int)) = false := decide_eq_false (by omega)
                have q3 : decide ((b.toNat : Int) < 48) = true := decide_eq_true (by omega)
                have q4 : decide (57 < (b.toNat : Int)) = false := decide_eq_false (by omega)
                have q5 : decide ((b.toNat : Int) = 45) = true := decide_eq_true (by omega)
                have hok : okC b = true := by unfold okC; simp; omega
                simp only [i0, i3, hix, q1, q2, q3, q4, q5, go_sem, Hold.p, HoldK.k, HoldL.K, HoldL.body, Nat.reduceBEq, Nat.reduceAdd, List.getElem?_cons_zero, List.getElem?_cons_succ, Option.bind_some, List.map_cons, List.map_nil, Nat.zero_add, if_true, List.getD_cons_zero, List.getD_cons_succ, List.contains_cons, List.contains_nil, Nat.reduceBEq, Bool.or_true, Bool.true_or, Bool.or_false, Bool.false_or, Bool.not_true, Bool.not_false, true_and, and_true, rowA_whole, push_n, set_n, push_obj, set_obj, set_push, set_push_ne, set_set, Nat.add_assoc, Nat.left_eq_add, Nat.add_eq_left, Nat.add_left_cancel_iff, Nat.reduceEqDiff, stO_1s, stO_ws, boxA_s, one_bool, one_int, one_str, one_ptr, one_nilptr, one_slice, one_eslice, one_nilslice, one_func, one_iface, one_niliface, List.all_cons, List.all_nil, List.length_cons, List.length_nil, Nat.reduceLT, Nat.reduceEqDiff, Nat.reduceLeDiff, Bool.and_true, Nat.one_ne_zero, Nat.succ_ne_zero, reduceIte, if_false, List.getElem?_cons_zero, List.set_cons_zero, List.set_cons_succ]
                exact ⟨_, by omega, k + 1, rfl, by omega, wr64_succ k (by omega), by rw [take_all hkp hall, hok]⟩
              · have q1 : decide ((b.toNat : Int) < 97) = true := decide_eq_true (by omega)
                have q2 : decide (122 < (b.toNat : Int)) = false := decide_eq_false (by omega)
                have q3 : decide ((b.toNat : Int) < 48) = true := decide_eq_true (by omega)
                have q4 : decide (57 < (b.toNat : Int)) = false := decide_eq_false (by omega)
                have q5 : decide ((b.toNat : Int) = 45) = false := decide_eq_false (by omega)
                have hok : okC b = false := by unfold okC; simp; omega
                simp only [i0, i3, hix, q1, q2, q3, q4, q5, go_sem, Hold.p, HoldK.k, HoldL.K, HoldL.body, Nat.reduceBEq, Nat.reduceAdd, List.getElem?_cons_zero, List.getElem?_cons_succ, Option.bind_some, List.map_cons, List.map_nil, Nat.zero_add, if_true, List.getD_cons_zero, List.getD_cons_succ, List.contains_cons, List.contains_nil, Nat.reduceBEq, Bool.or_true, Bool.true_or, Bool.or_false, Bool.false_or, Bool.not_true, Bool.not_false, true_and, and_true, rowA_whole, push_n, set_n, push_obj, set_obj, set_push, set_push_ne, set_set, Nat.add_assoc, Nat.left_eq_add, Nat.add_eq_left, Nat.add_left_cancel_iff, Nat.reduceEqDiff, stO_1s, stO_ws, boxA_s, one_bool, one_int, one_str, one_ptr, one_nilptr, one_slice, one_eslice, one_nilslice, one_func, one_iface, one_niliface, List.all_cons, List.all_nil, List.length_cons, List.length_nil, Nat.reduceLT, Nat.reduceEqDiff, Nat.reduceLeDiff, Bool.and_true, Nat.one_ne_zero, Nat.succ_ne_zero, reduceIte, if_false, List.getElem?_cons_zero, List.set_cons_zero, List.set_cons_succ]
                rw [not_all hkp hok]; rfl
              · have q1 : decide ((b.toNat : Int) < 97) = true := decide_eq_true (by omega)
                have q2 : decide (122 < (b.toNat : Int)) = false := decide_eq_false (by omega)
                have q3 : decide ((b.toNat : Int) < 48) = false := decide_eq_false (by omega)
                have q4 : decide (57 < (b.toNat : Int)) = false := decide_eq_false (by omega)
                have q5 : decide ((b.toNat : Int) = 45) = false := decide_eq_false (by omega)
                have hok : okC b = true := by unfold okC; simp; omega
                simp only [i0, i3, hix, q1, q2, q3, q4, q5, go_sem, Hold.p, HoldK.k, HoldL.K, HoldL.body, Nat.reduceBEq, Nat.reduceAdd, List.getElem?_cons_zero, List.getElem?_cons_succ, Option.bind_some, List.map_cons, List.map_nil, Nat.zero_add, if_true, List.getD_cons_zero, List.getD_cons_succ, List.contains_cons, List.contains_nil, Nat.reduceBEq, Bool.or_true, Bool.true_or, Bool.or_false, Bool.false_or, Bool.not_true, Bool.not_false, true_and, and_true, rowA_whole, push_n, set_n, push_obj, set_obj, set_push, set_push_ne, set_set, Nat.add_assoc, Nat.left_eq_add, Nat.add_eq_left, Nat.add_left_cancel_iff, Nat.reduceEqDiff, stO_1s, stO_ws, boxA_s, one_bool, one_int, one_str, one_ptr, one_nilptr, one_slice, one_eslice, one_nilslice, one_func, one_iface, one_niliface, List.all_cons, List.all_nil, List.length_cons, List.length_nil, Nat.reduceLT, Nat.reduceEqDiff, Nat.reduceLeDiff, Bool.and_true, Nat.one_ne_zero, Nat.succ_ne_zero, reduceIte, if_false, List.getElem?_cons_zero, List.set_cons_zero, List.set_cons_succ]
                exact ⟨_, by omega, k + 1, rfl, by omega, wr64_succ k (by omega), by rw [take_all hkp hall, hok]⟩
              · have q1 : decide ((b.toNat : Int) < 97) = true := decide_eq_true (by omega)
                have q2 : decide (122 < (b.toNat : Int)) = false := decide_eq_false (by omega)
                have q3 : decide ((b.toNat : Int) < 48) = false := decide_eq_false (by omega)
                have q4 : decide (57 < (b.toNat : Int)) = true := decide_eq_true (by omega)
                have q5 : decide ((b.toNat : Int) = 45) = false := decide_eq_false (by omega)
                have hok : okC b = false := by unfold okC; simp; omega
                simp only [i0, i3, hix, q1, q2, q3, q4, q5, go_sem, Hold.p, HoldK.k, HoldL.K, HoldL.body, Nat.reduceBEq, Nat.reduceAdd, List.getElem?_cons_zero, List.getElem?_cons_succ, Option.bind_some, List.map_cons, List.map_nil, Nat.zero_add, if_true, List.getD_cons_zero, List.getD_cons_succ, List.contains_cons, List.contains_nil, Nat.reduceBEq, Bool.or_true, Bool.true_or, Bool.or_false, Bool.false_or, Bool.not_true, Bool.not_false, true_and, and_true, rowA_whole, push_n, set_n, push_obj, set_obj, set_push, set_push_ne, set_set, Nat.add_assoc, Nat.left_eq_add, Nat.add_eq_left, Nat.add_left_cancel_iff, Nat.reduceEqDiff, stO_1s, stO_ws, boxA_s, one_bool, one_int, one_str, one_ptr, one_nilptr, one_slice, one_eslice, one_nilslice, one_func, one_iface, one_niliface, List.all_cons, List.all_nil, List.length_cons, List.length_nil, Nat.reduceLT, Nat.reduceEqDiff, Nat.reduceLeDiff, Bool.and_true, Nat.one_ne_zero, Nat.succ_ne_zero, reduceIte, if_false, List.getElem?_cons_zero, List.set_cons_zero, List.set_cons_succ]
                rw [not_all hkp hok]; rfl
              · have q1 : decide ((b.toNat : Int) < 97) = false := decide_eq_false (by omega)
                have q2 : decide (122 < (b.toNat : Int)) = false := decide_eq_false (by omega)
                have q3 : decide ((b.toNat : Int) < 48) = false := decide_eq_false (by omega)
                have q4 : decide (57 < (b.toNat : Int)) = true := decide_eq_true (by omega)
                have q5 : decide ((b.toNat : Int) = 45) = false := decide_eq_false (by omega)
                have hok : okC b = true := by unfold okC; simp; omega
                simp only [i0, i3, hix, q1, q2, q3, q4, q5, go_sem, Hold.p, HoldK.k, HoldL.K, HoldL.body, Nat.reduceBEq, Nat.reduceAdd, List.getElem?_cons_zero, List.getElem?_cons_succ, Option.bind_some, List.map_cons, List.map_nil, Nat.zero_add, if_true, List.getD_cons_zero, List.getD_cons_succ, List.contains_cons, List.contains_nil, Nat.reduceBEq, Bool.or_true, Bool.true_or, Bool.or_false, Bool.false_or, Bool.not_true, Bool.not_false, true_and, and_true, rowA_whole, push_n, set_n, push_obj, set_obj, set_push, set_push_ne, set_set, Nat.add_assoc, Nat.left_eq_add, Nat.add_eq_left, Nat.add_left_cancel_iff, Nat.reduceEqDiff, stO_1s, stO_ws, boxA_s, one_bool, one_int, one_str, one_ptr, one_nilptr, one_slice, one_eslice, one_nilslice, one_func, one_iface, one_niliface, List.all_cons, List.all_nil, List.length_cons, List.length_nil, Nat.reduceLT, Nat.reduceEqDiff, Nat.reduceLeDiff, Bool.and_true, Nat.one_ne_zero, Nat.succ_ne_zero, reduceIte, if_false, List.getElem?_cons_zero, List.set_cons_zero, List.set_cons_succ]
                exact ⟨_, by omega, k + 1, rfl, by omega, wr64_succ k (by omega), by rw [take_all hkp hall, hok]⟩
              · have q1 : decide ((b.toNat : Int) < 97) = false := decide_eq_false (by omega)
                have q2 : decide (122 < (b.toNat : Int)) = true := decide_eq_true (by omega)
                have q3 : decide ((b.toNat : Int) < 48) = false := decide_eq_false (by omega)
                have q4 : decide (57 < (b.toNat : Int)) = true := decide_eq_true (by omega)
                have q5 : decide ((b.toNat : Int) = 45) = false := decide_eq_false (by omega)
                have hok : okC b = false := by unfold okC; simp; omega
                simp only [i0, i3, hix, q1, q2, q3, q4, q5, go_sem, Hold.p, HoldK.k, HoldL.K, HoldL.body, Nat.reduceBEq, Nat.reduceAdd, List.getElem?_cons_zero, List.getElem?_cons_succ, Option.bind_some, List.map_cons, List.map_nil, Nat.zero_add, if_true, List.getD_cons_zero, List.getD_cons_succ, List.contains_cons, List.contains_nil, Nat.reduceBEq, Bool.or_true, Bool.true_or, Bool.or_false, Bool.false_or, Bool.not_true, Bool.not_false, true_and, and_true, rowA_whole, push_n, set_n, push_obj, set_obj, set_push, set_push_ne, set_set, Nat.add_assoc, Nat.left_eq_add, Nat.add_eq_left, Nat.add_left_cancel_iff, Nat.reduceEqDiff, stO_1s, stO_ws, boxA_s, one_bool, one_int, one_str, one_ptr, one_nilptr, one_slice, one_eslice, one_nilslice, one_func, one_iface, one_niliface, List.all_cons, List.all_nil, List.length_cons, List.length_nil, Nat.reduceLT, Nat.reduceEqDiff, Nat.reduceLeDiff, Bool.and_true, Nat.one_ne_zero, Nat.succ_ne_zero, reduceIte, if_false, List.getElem?_cons_zero, List.set_cons_zero, List.set_cons_succ]
                rw [not_all hkp hok]; rfl
            · obtain rfl : k = s.length := by omega
              rw [List.take_length] at hall
              simp only [i0, i3, go_sem, Hold.p, HoldK.k, HoldL.K, HoldL.body, Nat.reduceBEq, Nat.reduceAdd, List.getElem?_cons_zero, List.getElem?_cons_succ, Option.bind_some, List.map_cons, List.map_nil, Nat.zero_add, if_true, List.getD_cons_zero, List.getD_cons_succ, List.contains_cons, List.contains_nil, Nat.reduceBEq, Bool.or_true, Bool.true_or, Bool.or_false, Bool.false_or, Bool.not_true, Bool.not_false, true_and, and_true, rowA_whole, push_n, set_n, push_obj, set_obj, set_push, set_push_ne, set_set, Nat.add_assoc, Nat.left_eq_add, Nat.add_eq_left, Nat.add_left_cancel_iff, Nat.reduceEqDiff, stO_1s, stO_ws, boxA_s, one_bool, one_int, one_str, one_ptr, one_nilptr, one_slice, one_eslice, one_nilslice, one_func, one_iface, one_niliface, List.all_cons, List.all_nil, List.length_cons, List.length_nil, Nat.reduceLT, Nat.reduceEqDiff, Nat.reduceLeDiff, Bool.and_true, Nat.one_ne_zero, Nat.succ_ne_zero, reduceIte, if_false, List.getElem?_cons_zero, List.set_cons_zero, List.set_cons_succ]
              rw [hall]; rfl
        · simp only [d1, d2, x0, w1, x1, d3, d4, go_sem, Hold.p, HoldK.k, HoldL.K, HoldL.body, Nat.reduceBEq, Nat.reduceAdd, List.getElem?_cons_zero, List.getElem?_cons_succ, Option.bind_some, List.map_cons, List.map_nil, Nat.zero_add, if_true, List.getD_cons_zero, List.getD_cons_succ, List.contains_cons, List.contains_nil, Nat.reduceBEq, Bool.or_true, Bool.true_or, Bool.or_false, Bool.false_or, Bool.not_true, Bool.not_false, true_and, and_true, rowA_whole, push_n, set_n, push_obj, set_obj, set_push, set_push_ne, set_set, Nat.add_assoc, Nat.left_eq_add, Nat.add_eq_left, Nat.add_left_cancel_iff, Nat.reduceEqDiff, stO_1s, stO_ws, boxA_s, one_bool, one_int, one_str, one_ptr, one_nilptr, one_slice, one_eslice, one_nilslice, one_func, one_iface, one_niliface, List.all_cons, List.all_nil, List.length_cons, List.length_nil, Nat.reduceLT, Nat.reduceEqDiff, Nat.reduceLeDiff, Bool.and_true, Nat.one_ne_zero, Nat.succ_ne_zero, reduceIte, if_false, List.getElem?_cons_zero, List.set_cons_zero, List.set_cons_succ]
          rfl
      · simp only [d1, d2, x0, w1, x1, d3, go_sem, Hold.p, HoldK.k, HoldL.K, HoldL.body, Nat.reduceBEq, Nat.reduceAdd, List.getElem?_cons_zero, List.getElem?_cons_succ, Option.bind_some, List.map_cons, List.map_nil, Nat.zero_add, if_true, List.getD_cons_zero, List.getD_cons_succ, List.contains_cons, List.contains_nil, Nat.reduceBEq, Bool.or_true, Bool.true_or, Bool.or_false, Bool.false_or, Bool.not_true, Bool.not_false, true_and, and_true, rowA_whole, push_n, set_n, push_obj, set_obj, set_push, set_push_ne, set_set, Nat.add_assoc, Nat.left_eq_add, Nat.add_eq_left, Nat.add_left_cancel_iff, Nat.reduceEqDiff, stO_1s, stO_ws, boxA_s, one_bool, one_int, one_str, one_ptr, one_nilptr, one_slice, one_eslice, one_nilslice, one_func, one_iface, one_niliface, List.all_cons, List.all_nil, List.length_cons, List.length_nil, Nat.reduceLT, Nat.reduceEqDiff, Nat.reduceLeDiff, Bool.and_true, Nat.one_ne_zero, Nat.succ_ne_zero, reduceIte, if_false, List.getElem?_cons_zero, List.set_cons_zero, List.set_cons_succ]
        rfl
end Go.Proofs.YtcmcfmgabafljaaDoor
