import Derived.Test.YtdpaehdolhdjdaaDoorK2
import Derived.Test.YtdpaehdolhdjdaaDoorProg
import Derived.KernelRfl
import Derived.Test.YtdpaehdolhdjdaaDoorK3
set_option linter.unusedSimpArgs false
set_option linter.unusedVariables false
namespace Go.Proofs.YtdpaehdolhdjdaaDoor
open Go Go.IW
/-- loop.example/g00003/spec.NameOK -/
def c77 : CC :=
 (.seq (.reg [
   ⟨(some 2), none, .f (.mv (.c (.bool false)))⟩])
 (.seq (.seq (.reg [
   ⟨(some 5), none, .f (.mv (.t 0))⟩,
   ⟨(some 6), none, .f (.lenS (.t 5))⟩,
   ⟨(some 7), none, .f (.bin .gtr (.t 6) (.c (.int .i64 63)))⟩])
 (.cond (.t 7)
  (.seq (.reg [
    ⟨(some 2), none, .f (.mv (.c (.bool false)))⟩])
  .ret)
  .skip))
 (.seq (.reg [
   ⟨(some 8), none, .f (.mv (.t 0))⟩,
   ⟨(some 9), none, .x (.call 44 [(.t 8), (.c (.int .u8 46))])⟩,
   ⟨(some 3), none, .f (.mv (.t 9))⟩])
 (.seq (.seq (.reg [
   ⟨(some 4), none, .f (.mv (.c (.int .i64 0)))⟩])
 (.block 0 (.loop (.seq (.seq (.reg [
     ⟨(some 10), none, .f (.mv (.t 4))⟩,
     ⟨(some 11), none, .f (.mv (.t 3))⟩,
     ⟨(some 12), none, .f (.len (.t 11))⟩,
     ⟨(some 13), none, .f (.bin .lss (.t 10) (.t 12))⟩])
   (.cond (.t 13)
    .skip
    (.exit 0)))
   (.seq (.block 1 (.seq (.reg [
      ⟨(some 16), none, .f (.mv (.t 3))⟩,
      ⟨(some 17), none, .f (.mv (.t 4))⟩,
      ⟨(some 18), none, .f (.iadr 1 (.t 16) (.t 17))⟩,
      ⟨(some 19), none, .f (.ld (.t 18))⟩,
      ⟨(some 20), none, .x (.call 129 [(.t 19)])⟩,
      ⟨(some 21), none, .f (.un .not (.t 20))⟩])
    (.cond (.t 21)
     (.seq (.reg [
       ⟨(some 2), none, .f (.mv (.c (.bool false)))⟩])
     .ret)
     .skip)))
   (.reg [
     ⟨(some 14), none, .f (.mv (.t 4))⟩,
     ⟨(some 15), none, .f (.bin .add (.t 14) (.c (.int .i64 1)))⟩,
     ⟨(some 4), none, .f (.mv (.t 15))⟩]))))))
 (.seq (.reg [
   ⟨(some 2), none, .f (.mv (.c (.bool true)))⟩])
 .ret)))))
theorem ok77 : fnComp Tryd.prog 77 = some (22, c77, [(.mv (.t 2))]) := by kernel_rfl

/-- loop.example/g00003/spec.l02Cut -/
def c44 : CC :=
 (.seq (.reg [
   ⟨(some 4), none, .f (.mv (.c .nilslice))⟩])
 (.seq (.reg [
   ⟨(some 8), none, .x (.bslice 9 1 [(.str [])] 0 [])⟩,
   ⟨(some 5), none, .f (.mv (.t 8))⟩])
 (.seq (.reg [
   ⟨(some 6), none, .f (.mv (.c (.int .i64 0)))⟩])
 (.seq (.seq (.reg [
   ⟨(some 7), none, .f (.mv (.c (.int .i64 0)))⟩])
 (.block 0 (.loop (.seq (.seq (.reg [
     ⟨(some 9), none, .f (.mv (.t 7))⟩,
     ⟨(some 10), none, .f (.mv (.t 0))⟩,
     ⟨(some 11), none, .f (.lenS (.t 10))⟩,
     ⟨(some 12), none, .f (.bin .lss (.t 9) (.t 11))⟩])
   (.cond (.t 12)
    .skip
    (.exit 0)))
   (.seq (.block 1 (.seq (.reg [
      ⟨(some 15), none, .f (.mv (.t 0))⟩,
      ⟨(some 16), none, .f (.mv (.t 7))⟩,
      ⟨(some 17), none, .f (.idxS (.t 15) (.t 16))⟩,
      ⟨(some 18), none, .f (.mv (.t 1))⟩,
      ⟨(some 19), none, .f (.bin .eql (.t 17) (.t 18))⟩])
    (.cond (.t 19)
     (.seq (.reg [
       ⟨(some 20), none, .f (.mv (.t 5))⟩,
       ⟨(some 21), none, .f (.mv (.t 0))⟩,
       ⟨(some 22), none, .f (.mv (.t 6))⟩,
       ⟨(some 23), none, .f (.mv (.t 7))⟩,
       ⟨(some 24), none, .f (.slcS (.t 21) (some (.t 22)) (some (.t 23)))⟩,
       ⟨(some 25), none, .x (.bslice 9 1 [(.str [])] 1 [(0, (.t 24))])⟩,
       ⟨(some 26), none, .x (.app 9 1 16 (.t 20) (.t 25))⟩,
       ⟨(some 5), none, .f (.mv (.t 26))⟩])
     (.reg [
       ⟨(some 27), none, .f (.mv (.t 7))⟩,
       ⟨(some 28), none, .f (.bin .add (.t 27) (.c (.int .i64 1)))⟩,
       ⟨(some 6), none, .f (.mv (.t 28))⟩]))
     .skip)))
   (.reg [
     ⟨(some 13), none, .f (.mv (.t 7))⟩,
     ⟨(some 14), none, .f (.bin .add (.t 13) (.c (.int .i64 1)))⟩,
     ⟨(some 7), none, .f (.mv (.t 14))⟩]))))))
 (.seq (.reg [
   ⟨(some 29), none, .f (.mv (.t 5))⟩,
   ⟨(some 30), none, .f (.mv (.t 0))⟩,
   ⟨(some 31), none, .f (.mv (.t 6))⟩,
   ⟨(some 32), none, .f (.slcS (.t 30) (some (.t 31)) none)⟩,
   ⟨(some 33), none, .x (.bslice 9 1 [(.str [])] 1 [(0, (.t 32))])⟩,
   ⟨(some 34), none, .x (.app 9 1 16 (.t 29) (.t 33))⟩,
   ⟨(some 4), none, .f (.mv (.t 34))⟩])
 .ret)))))
theorem ok44 : fnComp Tryd.prog 44 = some (35, c44, [(.mv (.t 4))]) := by kernel_rfl

/-- loop.example/g00003/spec.l19Label -/
def c129 : CC :=
 (.seq (.reg [
   ⟨(some 2), none, .f (.mv (.c (.bool false)))⟩])
 (.seq (.seq (.reg [
   ⟨(some 4), none, .f (.mv (.t 0))⟩,
   ⟨(some 5), none, .f (.lenS (.t 4))⟩,
   ⟨(some 6), none, .f (.bin .lss (.t 5) (.c (.int .i64 1)))⟩,
   ⟨(some 7), none, .f (.mv (.t 6))⟩,
   ⟨(some 8), (some (7, false)), .f (.mv (.t 0))⟩,
   ⟨(some 9), (some (7, false)), .f (.lenS (.t 8))⟩,
   ⟨(some 10), (some (7, false)), .f (.bin .gtr (.t 9) (.c (.int .i64 20)))⟩,
   ⟨(some 11), none, .f (.pick (.t 7) (.c (.bool true)) (.t 10))⟩,
   ⟨(some 12), none, .f (.mv (.t 11))⟩,
   ⟨(some 13), (some (12, false)), .f (.mv (.t 0))⟩,
   ⟨(some 14), (some (12, false)), .f (.idxS (.t 13) (.c (.int .i64 0)))⟩,
   ⟨(some 15), (some (12, false)), .f (.bin .eql (.t 14) (.c (.int .u8 45)))⟩,
   ⟨(some 16), none, .f (.pick (.t 12) (.c (.bool true)) (.t 15))⟩,
   ⟨(some 17), none, .f (.mv (.t 16))⟩,
   ⟨(some 18), (some (17, false)), .f (.mv (.t 0))⟩,
   ⟨(some 19), (some (17, false)), .f (.mv (.t 0))⟩,
   ⟨(some 20), (some (17, false)), .f (.lenS (.t 19))⟩,
   ⟨(some 21), (some (17, false)), .f (.bin .sub (.t 20) (.c (.int .i64 1)))⟩,
   ⟨(some 22), (some (17, false)), .f (.idxS (.t 18) (.t 21))⟩,
   ⟨(some 23), (some (17, false)), .f (.bin .eql (.t 22) (.c (.int .u8 45)))⟩,
   ⟨(some 24), none, .f (.pick (.t 17) (.c (.bool true)) (.t 23))⟩])
 (.cond (.t 24)
  (.seq (.reg [
    ⟨(some 2), none, .f (.mv (.c (.bool false)))⟩])
  .ret)
  .skip))
 (.seq (.seq (.reg [
   ⟨(some 3), none, .f (.mv (.c (.int .i64 0)))⟩])
 (.block 0 (.loop (.seq (.seq (.reg [
     ⟨(some 25), none, .f (.mv (.t 3))⟩,
     ⟨(some 26), none, .f (.mv (.t 0))⟩,
     ⟨(some 27), none, .f (.lenS (.t 26))⟩,
     ⟨(some 28), none, .f (.bin .lss (.t 25) (.t 27))⟩])
   (.cond (.t 28)
    .skip
    (.exit 0)))
   (.seq (.block 1 (.seq (.reg [
      ⟨(some 31), none, .f (.mv (.t 0))⟩,
      ⟨(some 32), none, .f (.mv (.t 3))⟩,
      ⟨(some 33), none, .f (.idxS (.t 31) (.t 32))⟩,
      ⟨(some 34), none, .f (.bin .lss (.t 33) (.c (.int .u8 97)))⟩,
      ⟨(some 35), none, .f (.mv (.t 34))⟩,
      ⟨(some 36), (some (35, false)), .f (.mv (.t 0))⟩,
      ⟨(some 37), (some (35, false)), .f (.mv (.t 3))⟩,
      ⟨(some 38), (some (35, false)), .f (.idxS (.t 36) (.t 37))⟩,
      ⟨(some 39), (some (35, false)), .f (.bin .gtr (.t 38) (.c (.int .u8 122)))⟩,
      ⟨(some 40), none, .f (.pick (.t 35) (.c (.bool true)) (.t 39))⟩,
      ⟨(some 41), none, .f (.mv (.t 40))⟩,
      ⟨(some 42), (some (41, true)), .f (.mv (.t 0))⟩,
      ⟨(some 43), (some (41, true)), .f (.mv (.t 3))⟩,
      ⟨(some 44), (some (41, true)), .f (.idxS (.t 42) (.t 43))⟩,
      ⟨(some 45), (some (41, true)), .f (.bin .lss (.t 44) (.c (.int .u8 48)))⟩,
      ⟨(some 46), (some (41, true)), .f (.mv (.t 45))⟩,
      ⟨(some 47), (some (46, false)), .f (.mv (.t 0))⟩,
      ⟨(some 48), (some (46, false)), .f (.mv (.t 3))⟩,
      ⟨(some 49), (some (46, false)), .f (.idxS (.t 47) (.t 48))⟩,
      ⟨(some 50), (some (46, false)), .f (.bin .gtr (.t 49) (.c (.int .u8 57)))⟩,
      ⟨(some 51), (some (41, true)), .f (.pick (.t 46) (.c (.bool true)) (.t 50))⟩,
      ⟨(some 52), none, .f (.pick (.t 41) (.t 51) (.c (.bool false)))⟩,
      ⟨(some 53), none, .f (.mv (.t 52))⟩,
      ⟨(some 54), (some (53, true)), .f (.mv (.t 0))⟩,
      ⟨(some 55), (some (53, true)), .f (.mv (.t 3))⟩,
      ⟨(some 56), (some (53, true)), .f (.idxS (.t 54) (.t 55))⟩,
      ⟨(some 57), (some (53, true)), .f (.bin .neq (.t 56) (.c (.int .u8 45)))⟩,
      ⟨(some 58), none, .f (.pick (.t 53) (.t 57) (.c (.bool false)))⟩])
    (.cond (.t 58)
     (.seq (.reg [
       ⟨(some 2), none, .f (.mv (.c (.bool false)))⟩])
     .ret)
     .skip)))
   (.reg [
     ⟨(some 29), none, .f (.mv (.t 3))⟩,
     ⟨(some 30), none, .f (.bin .add (.t 29) (.c (.int .i64 1)))⟩,
     ⟨(some 3), none, .f (.mv (.t 30))⟩]))))))
 (.seq (.reg [
   ⟨(some 2), none, .f (.mv (.c (.bool true)))⟩])
 .ret))))
theorem ok129 : fnComp Tryd.prog 129 = some (59, c129, [(.mv (.t 2))]) := by kernel_rfl

/-- loop.example/g00003/impl.NameOK -/
def c80 : CC :=
 (.seq (.reg [
   ⟨(some 2), none, .f (.mv (.c (.bool false)))⟩])
 (.seq (.seq (.reg [
   ⟨(some 7), none, .f (.mv (.t 0))⟩,
   ⟨(some 8), none, .f (.lenS (.t 7))⟩,
   ⟨(some 9), none, .f (.bin .lss (.t 8) (.c (.int .i64 1)))⟩,
   ⟨(some 10), none, .f (.mv (.t 9))⟩,
   ⟨(some 11), (some (10, false)), .f (.mv (.t 0))⟩,
   ⟨(some 12), (some (10, false)), .f (.lenS (.t 11))⟩,
   ⟨(some 13), (some (10, false)), .f (.bin .gtr (.t 12) (.c (.int .i64 63)))⟩,
   ⟨(some 14), none, .f (.pick (.t 10) (.c (.bool true)) (.t 13))⟩])
 (.cond (.t 14)
  (.seq (.reg [
    ⟨(some 2), none, .f (.mv (.c (.bool false)))⟩])
  .ret)
  .skip))
 (.seq (.seq (.reg [
   ⟨(some 15), none, .f (.mv (.t 0))⟩,
   ⟨(some 16), none, .x (.call 59 [(.t 15), (.c (.str [46]))])⟩,
   ⟨(some 17), none, .f (.len (.t 16))⟩,
   ⟨(some 18), none, .f (.mv (.c (.int .i64 0)))⟩])
 (.block 0 (.loop (.seq (.reg [
     ⟨(some 19), none, .f (.bin .lss (.t 18) (.t 17))⟩])
   (.seq (.cond (.t 19)
    .skip
    (.exit 0))
   (.seq (.block 1 (.seq (.reg [
      ⟨(some 20), none, .f (.iadr 1 (.t 16) (.t 18))⟩,
      ⟨(some 21), none, .f (.ld (.t 20))⟩,
      ⟨(some 4), none, .f (.mv (.t 21))⟩])
    (.seq (.seq (.reg [
      ⟨(some 22), none, .f (.mv (.t 4))⟩,
      ⟨(some 23), none, .f (.lenS (.t 22))⟩,
      ⟨(some 24), none, .f (.bin .lss (.t 23) (.c (.int .i64 1)))⟩,
      ⟨(some 25), none, .f (.mv (.t 24))⟩,
      ⟨(some 26), (some (25, false)), .f (.mv (.t 4))⟩,
      ⟨(some 27), (some (25, false)), .f (.lenS (.t 26))⟩,
      ⟨(some 28), (some (25, false)), .f (.bin .gtr (.t 27) (.c (.int .i64 20)))⟩,
      ⟨(some 29), none, .f (.pick (.t 25) (.c (.bool true)) (.t 28))⟩,
      ⟨(some 30), none, .f (.mv (.t 29))⟩,
      ⟨(some 31), (some (30, false)), .f (.mv (.t 4))⟩,
      ⟨(some 32), (some (30, false)), .f (.idxS (.t 31) (.c (.int .i64 0)))⟩,
      ⟨(some 33), (some (30, false)), .f (.bin .eql (.t 32) (.c (.int .u8 45)))⟩,
      ⟨(some 34), none, .f (.pick (.t 30) (.c (.bool true)) (.t 33))⟩,
      ⟨(some 35), none, .f (.mv (.t 34))⟩,
      ⟨(some 36), (some (35, false)), .f (.mv (.t 4))⟩,
      ⟨(some 37), (some (35, false)), .f (.mv (.t 4))⟩,
      ⟨(some 38), (some (35, false)), .f (.lenS (.t 37))⟩,
      ⟨(some 39), (some (35, false)), .f (.bin .sub (.t 38) (.c (.int .i64 1)))⟩,
      ⟨(some 40), (some (35, false)), .f (.idxS (.t 36) (.t 39))⟩,
      ⟨(some 41), (some (35, false)), .f (.bin .eql (.t 40) (.c (.int .u8 45)))⟩,
      ⟨(some 42), none, .f (.pick (.t 35) (.c (.bool true)) (.t 41))⟩])
    (.cond (.t 42)
     (.seq (.reg [
       ⟨(some 2), none, .f (.mv (.c (.bool false)))⟩])
     .ret)
     .skip))
    (.seq (.reg [
      ⟨(some 43), none, .f (.mv (.t 4))⟩,
      ⟨(some 44), none, .x (.s2b 5 (.t 43))⟩,
      ⟨(some 45), none, .f (.len (.t 44))⟩,
      ⟨(some 46), none, .f (.mv (.c (.int .i64 0)))⟩])
    (.block 2 (.loop (.seq (.reg [
        ⟨(some 47), none, .f (.bin .lss (.t 46) (.t 45))⟩])
      (.seq (.cond (.t 47)
       .skip
       (.exit 2))
      (.seq (.block 3 (.seq (.reg [
         ⟨(some 48), none, .f (.iadr 1 (.t 44) (.t 46))⟩,
         ⟨(some 49), none, .f (.ld (.t 48))⟩,
         ⟨(some 6), none, .f (.mv (.t 49))⟩])
       (.seq (.reg [
         ⟨(some 50), none, .f (.mv (.t 6))⟩,
         ⟨(some 51), none, .f (.bin .geq (.t 50) (.c (.int .u8 97)))⟩,
         ⟨(some 52), none, .f (.mv (.t 51))⟩,
         ⟨(some 53), (some (52, true)), .f (.mv (.t 6))⟩,
         ⟨(some 54), (some (52, true)), .f (.bin .leq (.t 53) (.c (.int .u8 122)))⟩,
         ⟨(some 55), none, .f (.pick (.t 52) (.t 54) (.c (.bool false)))⟩,
         ⟨(some 56), none, .f (.mv (.t 55))⟩,
         ⟨(some 57), (some (56, false)), .f (.mv (.t 6))⟩,
         ⟨(some 58), (some (56, false)), .f (.bin .geq (.t 57) (.c (.int .u8 48)))⟩,
         ⟨(some 59), (some (56, false)), .f (.mv (.t 58))⟩,
         ⟨(some 60), (some (59, true)), .f (.mv (.t 6))⟩,
         ⟨(some 61), (some (59, true)), .f (.bin .leq (.t 60) (.c (.int .u8 57)))⟩,
         ⟨(some 62), (some (56, false)), .f (.pick (.t 59) (.t 61) (.c (.bool false)))⟩,
         ⟨(some 63), none, .f (.pick (.t 56) (.c (.bool true)) (.t 62))⟩,
         ⟨(some 64), none, .f (.mv (.t 63))⟩,
         ⟨(some 65), (some (64, false)), .f (.mv (.t 6))⟩,
         ⟨(some 66), (some (64, false)), .f (.bin .eql (.t 65) (.c (.int .u8 45)))⟩,
         ⟨(some 67), none, .f (.pick (.t 64) (.c (.bool true)) (.t 66))⟩,
         ⟨(some 68), none, .f (.un .not (.t 67))⟩])
       (.cond (.t 68)
        (.seq (.reg [
          ⟨(some 2), none, .f (.mv (.c (.bool false)))⟩])
        .ret)
        .skip))))
      (.reg [
        ⟨(some 69), none, .f (.bin .add (.t 46) (.c (.int .i64 1)))⟩,
        ⟨(some 46), none, .f (.mv (.t 69))⟩]))))))))))
   (.reg [
     ⟨(some 70), none, .f (.bin .add (.t 18) (.c (.int .i64 1)))⟩,
     ⟨(some 18), none, .f (.mv (.t 70))⟩])))))))
 (.seq (.reg [
   ⟨(some 2), none, .f (.mv (.c (.bool true)))⟩])
 .ret))))
theorem ok80 : fnComp Tryd.prog 80 = some (71, c80, [(.mv (.t 2))]) := by kernel_rfl

/-- strings.Split -/
def c59 : CC :=
 (.seq (.reg [
   ⟨(some 4), none, .f (.mv (.c .nilslice))⟩])
 (.seq (.reg [
   ⟨(some 5), none, .f (.mv (.t 0))⟩,
   ⟨(some 6), none, .f (.mv (.t 1))⟩,
   ⟨(some 7), none, .x (.call 118 [(.t 5), (.t 6), (.c (.int .i64 0)), (.c (.int .i64 (-1)))])⟩,
   ⟨(some 4), none, .f (.mv (.t 7))⟩])
 .ret))
theorem ok59 : fnComp Tryd.prog 59 = some (8, c59, [(.mv (.t 4))]) := by kernel_rfl

/-- strings.genSplit -/
def c118 : CC :=
 (.seq (.reg [
   ⟨(some 8), none, .f (.mv (.c .nilslice))⟩])
 (.seq (.seq (.reg [
   ⟨(some 12), none, .f (.mv (.t 3))⟩,
   ⟨(some 13), none, .f (.bin .eql (.t 12) (.c (.int .i64 0)))⟩])
 (.cond (.t 13)
  (.seq (.reg [
    ⟨(some 8), none, .f (.mv (.c .nilslice))⟩])
  .ret)
  .skip))
 (.seq (.seq (.reg [
   ⟨(some 14), none, .f (.mv (.t 1))⟩,
   ⟨(some 15), none, .f (.bin .eql (.t 14) (.c (.str [])))⟩])
 (.cond (.t 15)
  (.seq (.reg [
    ⟨(some 16), none, .f (.mv (.t 0))⟩,
    ⟨(some 17), none, .f (.mv (.t 3))⟩,
    ⟨(some 18), none, .x (.call 156 [(.t 16), (.t 17)])⟩,
    ⟨(some 8), none, .f (.mv (.t 18))⟩])
  .ret)
  .skip))
 (.seq (.seq (.reg [
   ⟨(some 19), none, .f (.mv (.t 3))⟩,
   ⟨(some 20), none, .f (.bin .lss (.t 19) (.c (.int .i64 0)))⟩])
 (.cond (.t 20)
  (.reg [
    ⟨(some 21), none, .f (.mv (.t 0))⟩,
    ⟨(some 22), none, .f (.mv (.t 1))⟩,
    ⟨(some 23), none, .x (.call 157 [(.t 21), (.t 22)])⟩,
    ⟨(some 24), none, .f (.bin .add (.t 23) (.c (.int .i64 1)))⟩,
    ⟨(some 3), none, .f (.mv (.t 24))⟩])
  .skip))
 (.seq (.reg [
   ⟨(some 25), none, .f (.mv (.t 3))⟩,
   ⟨(some 26), none, .f (.mv (.t 0))⟩,
   ⟨(some 27), none, .f (.lenS (.t 26))⟩,
   ⟨(some 28), none, .f (.bin .add (.t 27) (.c (.int .i64 1)))⟩,
   ⟨(some 29), none, .f (.mm false (.t 25) (.t 28))⟩,
   ⟨(some 3), none, .f (.mv (.t 29))⟩])
 (.seq (.reg [
   ⟨(some 30), none, .f (.mv (.t 3))⟩,
   ⟨(some 31), none, .x (.mks 9 1 16 [(.str [])] (.t 30) (.t 30))⟩,
   ⟨(some 9), none, .f (.mv (.t 31))⟩])
 (.seq (.reg [
   ⟨(some 32), none, .f (.mv (.t 3))⟩,
   ⟨(some 33), none, .f (.bin .sub (.t 32) (.c (.int .i64 1)))⟩,
   ⟨(some 3), none, .f (.mv (.t 33))⟩])
 (.seq (.reg [
   ⟨(some 10), none, .f (.mv (.c (.int .i64 0)))⟩])
 (.seq (.block 0 (.loop (.seq (.seq (.reg [
     ⟨(some 34), none, .f (.mv (.t 10))⟩,
     ⟨(some 35), none, .f (.mv (.t 3))⟩,
     ⟨(some 36), none, .f (.bin .lss (.t 34) (.t 35))⟩])
   (.cond (.t 36)
    .skip
    (.exit 0)))
   (.block 1 (.seq (.reg [
      ⟨(some 37), none, .f (.mv (.t 0))⟩,
      ⟨(some 38), none, .f (.mv (.t 1))⟩,
      ⟨(some 39), none, .x (.call 158 [(.t 37), (.t 38)])⟩,
      ⟨(some 11), none, .f (.mv (.t 39))⟩])
    (.seq (.seq (.reg [
      ⟨(some 40), none, .f (.mv (.t 11))⟩,
      ⟨(some 41), none, .f (.bin .lss (.t 40) (.c (.int .i64 0)))⟩])
    (.cond (.t 41)
     (.exit 0)
     .skip))
    (.seq (.reg [
      ⟨(some 42), none, .f (.mv (.t 9))⟩,
      ⟨(some 43), none, .f (.mv (.t 10))⟩,
      ⟨(some 44), none, .f (.mv (.t 0))⟩,
      ⟨(some 45), none, .f (.mv (.t 11))⟩,
      ⟨(some 46), none, .f (.mv (.t 2))⟩,
      ⟨(some 47), none, .f (.bin .add (.t 45) (.t 46))⟩,
      ⟨(some 48), none, .f (.slcS (.t 44) none (some (.t 47)))⟩,
      ⟨(some 49), none, .f (.iadr 1 (.t 42) (.t 43))⟩,
      ⟨none, none, .x (.st 1 (.t 49) (.t 48))⟩])
    (.seq (.reg [
      ⟨(some 50), none, .f (.mv (.t 0))⟩,
      ⟨(some 51), none, .f (.mv (.t 11))⟩,
      ⟨(some 52), none, .f (.mv (.t 1))⟩,
      ⟨(some 53), none, .f (.lenS (.t 52))⟩,
      ⟨(some 54), none, .f (.bin .add (.t 51) (.t 53))⟩,
      ⟨(some 55), none, .f (.slcS (.t 50) (some (.t 54)) none)⟩,
      ⟨(some 0), none, .f (.mv (.t 55))⟩])
    (.reg [
      ⟨(some 56), none, .f (.mv (.t 10))⟩,
      ⟨(some 57), none, .f (.bin .add (.t 56) (.c (.int .i64 1)))⟩,
      ⟨(some 10), none, .f (.mv (.t 57))⟩])))))))))
 (.seq (.reg [
   ⟨(some 58), none, .f (.mv (.t 9))⟩,
   ⟨(some 59), none, .f (.mv (.t 10))⟩,
   ⟨(some 60), none, .f (.mv (.t 0))⟩,
   ⟨(some 61), none, .f (.iadr 1 (.t 58) (.t 59))⟩,
   ⟨none, none, .x (.st 1 (.t 61) (.t 60))⟩])
 (.seq (.reg [
   ⟨(some 62), none, .f (.mv (.t 9))⟩,
   ⟨(some 63), none, .f (.mv (.t 10))⟩,
   ⟨(some 64), none, .f (.bin .add (.t 63) (.c (.int .i64 1)))⟩,
   ⟨(some 65), none, .f (.slc 1 (.t 62) none (some (.t 64)) none)⟩,
   ⟨(some 8), none, .f (.mv (.t 65))⟩])
 .ret)))))))))))
theorem ok118 : fnComp Tryd.prog 118 = some (66, c118, [(.mv (.t 8))]) := by kernel_rfl

/-- strings.Count -/
def c157 : CC :=
 (.seq (.reg [
   ⟨(some 4), none, .f (.mv (.c (.int .i64 0)))⟩])
 (.seq (.seq (.reg [
   ⟨(some 7), none, .f (.mv (.t 1))⟩,
   ⟨(some 8), none, .f (.lenS (.t 7))⟩,
   ⟨(some 9), none, .f (.bin .eql (.t 8) (.c (.int .i64 0)))⟩])
 (.cond (.t 9)
  (.seq (.reg [
    ⟨(some 10), none, .f (.mv (.t 0))⟩,
    ⟨(some 11), none, .x (.call 174 [(.t 10)])⟩,
    ⟨(some 12), none, .f (.bin .add (.t 11) (.c (.int .i64 1)))⟩,
    ⟨(some 4), none, .f (.mv (.t 12))⟩])
  .ret)
  .skip))
 (.seq (.seq (.reg [
   ⟨(some 13), none, .f (.mv (.t 1))⟩,
   ⟨(some 14), none, .f (.lenS (.t 13))⟩,
   ⟨(some 15), none, .f (.bin .eql (.t 14) (.c (.int .i64 1)))⟩])
 (.cond (.t 15)
  (.seq (.reg [
    ⟨(some 16), none, .f (.mv (.t 0))⟩,
    ⟨(some 17), none, .f (.mv (.t 1))⟩,
    ⟨(some 18), none, .f (.idxS (.t 17) (.c (.int .i64 0)))⟩,
    ⟨(some 19), none, .x (.call 176 [(.t 16), (.t 18)])⟩,
    ⟨(some 4), none, .f (.mv (.t 19))⟩])
  .ret)
  .skip))
 (.seq (.reg [
   ⟨(some 5), none, .f (.mv (.c (.int .i64 0)))⟩])
 (.block 0 (.loop (.block 1 (.seq (.reg [
      ⟨(some 20), none, .f (.mv (.t 0))⟩,
      ⟨(some 21), none, .f (.mv (.t 1))⟩,
      ⟨(some 22), none, .x (.call 158 [(.t 20), (.t 21)])⟩,
      ⟨(some 6), none, .f (.mv (.t 22))⟩])
    (.seq (.seq (.reg [
      ⟨(some 23), none, .f (.mv (.t 6))⟩,
      ⟨(some 24), none, .f (.bin .eql (.t 23) (.c (.int .i64 (-1))))⟩])
    (.cond (.t 24)
     (.seq (.reg [
       ⟨(some 25), none, .f (.mv (.t 5))⟩,
       ⟨(some 4), none, .f (.mv (.t 25))⟩])
     .ret)
     .skip))
    (.seq (.reg [
      ⟨(some 26), none, .f (.mv (.t 5))⟩,
      ⟨(some 27), none, .f (.bin .add (.t 26) (.c (.int .i64 1)))⟩,
      ⟨(some 5), none, .f (.mv (.t 27))⟩])
    (.reg [
      ⟨(some 28), none, .f (.mv (.t 0))⟩,
      ⟨(some 29), none, .f (.mv (.t 6))⟩,
      ⟨(some 30), none, .f (.mv (.t 1))⟩,
      ⟨(some 31), none, .f (.lenS (.t 30))⟩,
      ⟨(some 32), none, .f (.bin .add (.t 29) (.t 31))⟩,
      ⟨(some 33), none, .f (.slcS (.t 28) (some (.t 32)) none)⟩,
      ⟨(some 0), none, .f (.mv (.t 33))⟩])))))))))))
theorem ok157 : fnComp Tryd.prog 157 = some (34, c157, [(.mv (.t 4))]) := by kernel_rfl

/-- strings.Index -/
def c158 : CC :=
 (.seq (.reg [
   ⟨(some 4), none, .f (.mv (.c (.int .i64 0)))⟩])
 (.seq (.reg [
   ⟨(some 5), none, .f (.mv (.t 0))⟩,
   ⟨(some 6), none, .f (.mv (.t 1))⟩,
   ⟨(some 7), none, .x (.call 159 [(.t 5), (.t 6)])⟩,
   ⟨(some 4), none, .f (.mv (.t 7))⟩])
 .ret))
theorem ok158 : fnComp Tryd.prog 158 = some (8, c158, [(.mv (.t 4))]) := by kernel_rfl

/-- internal/stringslite.Index -/
def c159 : CC :=
 (.seq (.reg [
   ⟨(some 4), none, .f (.mv (.c (.int .i64 0)))⟩])
 (.seq (.reg [
   ⟨(some 14), none, .f (.mv (.t 1))⟩,
   ⟨(some 15), none, .f (.lenS (.t 14))⟩,
   ⟨(some 5), none, .f (.mv (.t 15))⟩])
 (.seq (.block 0 (.seq (.reg [
    ⟨(some 17), none, .f (.mv (.t 5))⟩,
    ⟨(some 18), none, .f (.bin .eql (.t 17) (.c (.int .i64 0)))⟩,
    ⟨(some 19), none, .f (.mv (.t 18))⟩,
    ⟨(some 20), (some (19, false)), .f (.mv (.t 1))⟩,
    ⟨(some 21), (some (19, false)), .f (.mv (.t 0))⟩,
    ⟨(some 22), (some (19, false)), .f (.bin .eql (.t 20) (.t 21))⟩,
    ⟨(some 23), none, .f (.pick (.t 19) (.c (.bool true)) (.t 22))⟩,
    ⟨(some 16), none, .f (.mv (.t 23))⟩])
  (.cond (.t 16)
   (.seq (.reg [
     ⟨(some 4), none, .f (.mv (.c (.int .i64 0)))⟩])
   .ret)
   (.seq (.reg [
     ⟨(some 25), none, .f (.mv (.t 5))⟩,
     ⟨(some 26), none, .f (.bin .eql (.t 25) (.c (.int .i64 1)))⟩,
     ⟨(some 24), none, .f (.mv (.t 26))⟩])
   (.cond (.t 24)
    (.seq (.reg [
      ⟨(some 27), none, .f (.mv (.t 0))⟩,
      ⟨(some 28), none, .f (.mv (.t 1))⟩,
      ⟨(some 29), none, .f (.idxS (.t 28) (.c (.int .i64 0)))⟩,
      ⟨(some 30), none, .x (.call 160 [(.t 27), (.t 29)])⟩,
      ⟨(some 4), none, .f (.mv (.t 30))⟩])
    .ret)
    (.seq (.reg [
      ⟨(some 32), none, .f (.mv (.t 5))⟩,
      ⟨(some 33), none, .f (.mv (.t 0))⟩,
      ⟨(some 34), none, .f (.lenS (.t 33))⟩,
      ⟨(some 35), none, .f (.bin .geq (.t 32) (.t 34))⟩,
      ⟨(some 31), none, .f (.mv (.t 35))⟩])
    (.cond (.t 31)
     (.seq (.reg [
       ⟨(some 4), none, .f (.mv (.c (.int .i64 (-1))))⟩])
     .ret)
     (.seq (.reg [
       ⟨(some 37), none, .f (.mv (.t 5))⟩,
       ⟨(some 38), none, .x (.ux .bad [])⟩,
       ⟨(some 39), none, .f (.bin .leq (.t 37) (.t 38))⟩,
       ⟨(some 40), none, .f (.mv (.t 39))⟩,
       ⟨(some 41), (some (40, true)), .f (.mv (.t 0))⟩,
       ⟨(some 42), (some (40, true)), .f (.lenS (.t 41))⟩,
       ⟨(some 43), (some (40, true)), .f (.bin .leq (.t 42) (.c (.int .i64 64)))⟩,
       ⟨(some 44), none, .f (.pick (.t 40) (.t 43) (.c (.bool false)))⟩,
       ⟨(some 36), none, .f (.mv (.t 44))⟩])
     (.cond (.t 36)
      (.seq (.reg [
        ⟨(some 45), none, .f (.mv (.t 0))⟩,
        ⟨(some 46), none, .f (.mv (.t 1))⟩,
        ⟨(some 47), none, .x (.call 123 [(.t 45), (.t 46)])⟩,
        ⟨(some 4), none, .f (.mv (.t 47))⟩])
      .ret)
      .skip)))))))))
 (.seq (.reg [
   ⟨(some 48), none, .f (.mv (.t 1))⟩,
   ⟨(some 49), none, .f (.idxS (.t 48) (.c (.int .i64 0)))⟩,
   ⟨(some 6), none, .f (.mv (.t 49))⟩])
 (.seq (.reg [
   ⟨(some 50), none, .f (.mv (.t 1))⟩,
   ⟨(some 51), none, .f (.idxS (.t 50) (.c (.int .i64 1)))⟩,
   ⟨(some 7), none, .f (.mv (.t 51))⟩])
 (.seq (.reg [
   ⟨(some 8), none, .f (.mv (.c (.int .i64 0)))⟩])
 (.seq (.reg [
   ⟨(some 52), none, .f (.mv (.t 0))⟩,
   ⟨(some 53), none, .f (.lenS (.t 52))⟩,
   ⟨(some 54), none, .f (.mv (.t 5))⟩,
   ⟨(some 55), none, .f (.bin .sub (.t 53) (.t 54))⟩,
   ⟨(some 56), none, .f (.bin .add (.t 55) (.c (.int .i64 1)))⟩,
   ⟨(some 9), none, .f (.mv (.t 56))⟩])
 (.seq (.reg [
   ⟨(some 10), none, .f (.mv (.c (.int .i64 0)))⟩])
 (.seq (.block 1 (.loop (.seq (.seq (.reg [
     ⟨(some 57), none, .f (.mv (.t 8))⟩,
     ⟨(some 58), none, .f (.mv (.t 9))⟩,
     ⟨(some 59), none, .f (.bin .lss (.t 57) (.t 58))⟩])
   (.cond (.t 59)
    .skip
    (.exit 1)))
   (.block 2 (.seq (.seq (.reg [
      ⟨(some 60), none, .f (.mv (.t 0))⟩,
      ⟨(some 61), none, .f (.mv (.t 8))⟩,
      ⟨(some 62), none, .f (.idxS (.t 60) (.t 61))⟩,
      ⟨(some 63), none, .f (.mv (.t 6))⟩,
      ⟨(some 64), none, .f (.bin .neq (.t 62) (.t 63))⟩])
    (.cond (.t 64)
     (.seq (.reg [
       ⟨(some 65), none, .f (.mv (.t 0))⟩,
       ⟨(some 66), none, .f (.mv (.t 8))⟩,
       ⟨(some 67), none, .f (.bin .add (.t 66) (.c (.int .i64 1)))⟩,
       ⟨(some 68), none, .f (.mv (.t 9))⟩,
       ⟨(some 69), none, .f (.slcS (.t 65) (some (.t 67)) (some (.t 68)))⟩,
       ⟨(some 70), none, .f (.mv (.t 6))⟩,
       ⟨(some 71), none, .x (.call 160 [(.t 69), (.t 70)])⟩,
       ⟨(some 11), none, .f (.mv (.t 71))⟩])
     (.seq (.seq (.reg [
       ⟨(some 72), none, .f (.mv (.t 11))⟩,
       ⟨(some 73), none, .f (.bin .lss (.t 72) (.c (.int .i64 0)))⟩])
     (.cond (.t 73)
      (.seq (.reg [
        ⟨(some 4), none, .f (.mv (.c (.int .i64 (-1))))⟩])
      .ret)
      .skip))
     (.reg [
       ⟨(some 74), none, .f (.mv (.t 8))⟩,
       ⟨(some 75), none, .f (.mv (.t 11))⟩,
       ⟨(some 76), none, .f (.bin .add (.t 75) (.c (.int .i64 1)))⟩,
       ⟨(some 77), none, .f (.bin .add (.t 74) (.t 76))⟩,
       ⟨(some 8), none, .f (.mv (.t 77))⟩])))
     .skip))
    (.seq (.seq (.reg [
      ⟨(some 78), none, .f (.mv (.t 0))⟩,
      ⟨(some 79), none, .f (.mv (.t 8))⟩,
      ⟨(some 80), none, .f (.bin .add (.t 79) (.c (.int .i64 1)))⟩,
      ⟨(some 81), none, .f (.idxS (.t 78) (.t 80))⟩,
      ⟨(some 82), none, .f (.mv (.t 7))⟩,
      ⟨(some 83), none, .f (.bin .eql (.t 81) (.t 82))⟩,
      ⟨(some 84), none, .f (.mv (.t 83))⟩,
      ⟨(some 85), (some (84, true)), .f (.mv (.t 0))⟩,
      ⟨(some 86), (some (84, true)), .f (.mv (.t 8))⟩,
      ⟨(some 87), (some (84, true)), .f (.mv (.t 8))⟩,
      ⟨(some 88), (some (84, true)), .f (.mv (.t 5))⟩,
      ⟨(some 89), (some (84, true)), .f (.bin .add (.t 87) (.t 88))⟩,
      ⟨(some 90), (some (84, true)), .f (.slcS (.t 85) (some (.t 86)) (some (.t 89)))⟩,
      ⟨(some 91), (some (84, true)), .f (.mv (.t 1))⟩,
      ⟨(some 92), (some (84, true)), .f (.bin .eql (.t 90) (.t 91))⟩,
      ⟨(some 93), none, .f (.pick (.t 84) (.t 92) (.c (.bool false)))⟩])
    (.cond (.t 93)
     (.seq (.reg [
       ⟨(some 94), none, .f (.mv (.t 8))⟩,
       ⟨(some 4), none, .f (.mv (.t 94))⟩])
     .ret)
     .skip))
    (.seq (.reg [
      ⟨(some 95), none, .f (.mv (.t 8))⟩,
      ⟨(some 96), none, .f (.bin .add (.t 95) (.c (.int .i64 1)))⟩,
      ⟨(some 8), none, .f (.mv (.t 96))⟩])
    (.seq (.reg [
      ⟨(some 97), none, .f (.mv (.t 10))⟩,
      ⟨(some 98), none, .f (.bin .add (.t 97) (.c (.int .i64 1)))⟩,
      ⟨(some 10), none, .f (.mv (.t 98))⟩])
    (.seq (.reg [
      ⟨(some 99), none, .f (.mv (.t 5))⟩,
      ⟨(some 100), none, .x (.ux .bad [])⟩,
      ⟨(some 101), none, .f (.bin .leq (.t 99) (.t 100))⟩,
      ⟨(some 102), none, .f (.mv (.t 101))⟩,
      ⟨(some 103), (some (102, true)), .f (.mv (.t 10))⟩,
      ⟨(some 104), (some (102, true)), .f (.mv (.t 8))⟩,
      ⟨(some 105), (some (102, true)), .x (.call 122 [(.t 104)])⟩,
      ⟨(some 106), (some (102, true)), .f (.bin .gtr (.t 103) (.t 105))⟩,
      ⟨(some 107), none, .f (.pick (.t 102) (.t 106) (.c (.bool false)))⟩])
    (.cond (.t 107)
     (.seq (.reg [
       ⟨(some 108), none, .f (.mv (.t 0))⟩,
       ⟨(some 109), none, .f (.mv (.t 8))⟩,
       ⟨(some 110), none, .f (.slcS (.t 108) (some (.t 109)) none)⟩,
       ⟨(some 111), none, .f (.mv (.t 1))⟩,
       ⟨(some 112), none, .x (.call 123 [(.t 110), (.t 111)])⟩,
       ⟨(some 12), none, .f (.mv (.t 112))⟩])
     (.seq (.seq (.reg [
       ⟨(some 113), none, .f (.mv (.t 12))⟩,
       ⟨(some 114), none, .f (.bin .geq (.t 113) (.c (.int .i64 0)))⟩])
     (.cond (.t 114)
      (.seq (.reg [
        ⟨(some 115), none, .f (.mv (.t 12))⟩,
        ⟨(some 116), none, .f (.mv (.t 8))⟩,
        ⟨(some 117), none, .f (.bin .add (.t 115) (.t 116))⟩,
        ⟨(some 4), none, .f (.mv (.t 117))⟩])
      .ret)
      .skip))
     (.seq (.reg [
       ⟨(some 4), none, .f (.mv (.c (.int .i64 (-1))))⟩])
     .ret)))
     (.seq (.reg [
       ⟨(some 118), none, .f (.mv (.t 5))⟩,
       ⟨(some 119), none, .x (.ux .bad [])⟩,
       ⟨(some 120), none, .f (.bin .gtr (.t 118) (.t 119))⟩,
       ⟨(some 121), none, .f (.mv (.t 120))⟩,
       ⟨(some 122), (some (121, true)), .f (.mv (.t 10))⟩,
       ⟨(some 123), (some (121, true)), .f (.mv (.t 8))⟩,
       ⟨(some 124), (some (121, true)), .f (.bin .shr (.t 123) (.c (.int .u64 4)))⟩,
       ⟨(some 125), (some (121, true)), .f (.bin .add (.c (.int .i64 4)) (.t 124))⟩,
       ⟨(some 126), (some (121, true)), .f (.bin .geq (.t 122) (.t 125))⟩,
       ⟨(some 127), none, .f (.pick (.t 121) (.t 126) (.c (.bool false)))⟩,
       ⟨(some 128), none, .f (.mv (.t 127))⟩,
       ⟨(some 129), (some (128, true)), .f (.mv (.t 8))⟩,
       ⟨(some 130), (some (128, true)), .f (.mv (.t 9))⟩,
       ⟨(some 131), (some (128, true)), .f (.bin .lss (.t 129) (.t 130))⟩,
       ⟨(some 132), none, .f (.pick (.t 128) (.t 131) (.c (.bool false)))⟩])
     (.cond (.t 132)
      (.seq (.reg [
        ⟨(some 133), none, .f (.mv (.t 0))⟩,
        ⟨(some 134), none, .f (.mv (.t 8))⟩,
        ⟨(some 135), none, .f (.slcS (.t 133) (some (.t 134)) none)⟩,
        ⟨(some 136), none, .f (.mv (.t 1))⟩,
        ⟨(some 137), none, .x (.call 177 [(.t 135), (.t 136)])⟩,
        ⟨(some 13), none, .f (.mv (.t 137))⟩])
      (.seq (.seq (.reg [
        ⟨(some 138), none, .f (.mv (.t 13))⟩,
        ⟨(some 139), none, .f (.bin .lss (.t 138) (.c (.int .i64 0)))⟩])
      (.cond (.t 139)
       (.seq (.reg [
         ⟨(some 4), none, .f (.mv (.c (.int .i64 (-1))))⟩])
       .ret)
       .skip))
      (.seq (.reg [
        ⟨(some 140), none, .f (.mv (.t 8))⟩,
        ⟨(some 141), none, .f (.mv (.t 13))⟩,
        ⟨(some 142), none, .f (.bin .add (.t 140) (.t 141))⟩,
        ⟨(some 4), none, .f (.mv (.t 142))⟩])
      .ret)))
      .skip))))))))))))
 (.seq (.reg [
   ⟨(some 4), none, .f (.mv (.c (.int .i64 (-1))))⟩])
 .ret))))))))))
theorem ok159 : fnComp Tryd.prog 159 = some (143, c159, [(.mv (.t 4))]) := by kernel_rfl

/-- internal/stringslite.IndexByte -/
def c160 : CC :=
 (.seq (.reg [
   ⟨(some 4), none, .f (.mv (.c (.int .i64 0)))⟩])
 (.seq (.reg [
   ⟨(some 5), none, .f (.mv (.t 0))⟩,
   ⟨(some 6), none, .f (.mv (.t 1))⟩,
   ⟨(some 7), none, .x (.call 178 [(.t 5), (.t 6)])⟩,
   ⟨(some 4), none, .f (.mv (.t 7))⟩])
 .ret))
theorem ok160 : fnComp Tryd.prog 160 = some (8, c160, [(.mv (.t 4))]) := by kernel_rfl

/-- loop.example/g00003/spec.EncodeQuery -/
def c27 : CC :=
 (.seq (.reg [
   ⟨(some 1), none, .x (.box 46 2 (.t 0))⟩,
   ⟨(some 2), none, .f (.mv (.c .nilslice))⟩,
   ⟨(some 3), none, .f (.mv (.c (.int .i64 0)))⟩])
 (.seq (.seq (.reg [
   ⟨(some 5), none, .f (.fadr 0 (.t 1))⟩,
   ⟨(some 6), none, .f (.ld (.t 5))⟩,
   ⟨(some 7), none, .x (.call 76 [(.t 6)])⟩,
   ⟨(some 8), none, .f (.un .not (.t 7))⟩,
   ⟨(some 9), none, .f (.mv (.t 8))⟩,
   ⟨(some 10), (some (9, false)), .f (.fadr 1 (.t 1))⟩,
   ⟨(some 11), (some (9, false)), .f (.ld (.t 10))⟩,
   ⟨(some 12), (some (9, false)), .x (.call 77 [(.t 11)])⟩,
   ⟨(some 13), (some (9, false)), .f (.un .not (.t 12))⟩,
   ⟨(some 14), none, .f (.pick (.t 9) (.c (.bool true)) (.t 13))⟩])
 (.cond (.t 14)
  (.seq (.reg [
    ⟨(some 2), none, .f (.mv (.c .nilslice))⟩,
    ⟨(some 3), none, .f (.mv (.c (.int .i64 1)))⟩])
  .ret)
  .skip))
 (.seq (.treg [
   ⟨(some 15), none, .f (.fadr 0 (.t 1))⟩,
   ⟨(some 16), none, .f (.ld (.t 15))⟩,
   ⟨(some 17), none, .x (.call 79 [(.t 16), (.c (.int .i64 2))])⟩,
   ⟨(some 18), none, .f (.fadr 1 (.t 1))⟩,
   ⟨(some 19), none, .f (.ld (.t 18))⟩,
   ⟨(some 20), none, .f (.lenS (.t 19))⟩,
   ⟨(some 21), none, .f (.cvI .u8 (.t 20))⟩,
   ⟨(some 22), none, .x (.bslice 5 1 [(.int .u8 0)] 2 [(0, (.c (.int .u8 0))), (1, (.t 21))])⟩,
   ⟨(some 23), none, .x (.call 78 [(.t 17), (.t 22)])⟩,
   ⟨(some 4), none, .f (.mv (.t 23))⟩]
   [[], [0], [1, 0], [], [3], [4, 3], [5, 4, 3], [6, 5, 4, 3], [2, 1, 0, 7, 6, 5, 4, 3], [8, 2, 1, 0, 7, 6, 5, 4, 3]] (.fl 0 (.fl 1 (.fl 3 (.fl 4 (.fl 5 (.fl 6 (.br 2 (.br 7 (.br 8 (.fl 9 .fin) .stop) .stop) (.br 7 (.br 2 (.br 8 (.fl 9 .fin) .stop) .stop) .stop)))))))))
 (.seq (.reg [
   ⟨(some 24), none, .f (.mv (.t 4))⟩,
   ⟨(some 25), none, .f (.fadr 1 (.t 1))⟩,
   ⟨(some 26), none, .f (.ld (.t 25))⟩,
   ⟨(some 27), none, .x (.s2b 5 (.t 26))⟩,
   ⟨(some 28), none, .x (.call 78 [(.t 24), (.t 27)])⟩,
   ⟨(some 2), none, .f (.mv (.t 28))⟩,
   ⟨(some 3), none, .f (.mv (.c (.int .i64 0)))⟩])
 .ret))))
theorem ok27 : fnComp Tryd.prog 27 = some (29, c27, [(.mv (.t 2)), (.mv (.t 3))]) := by kernel_rfl

/-- loop.example/g00003/impl.EncodeQuery -/
def c28 : CC :=
 (.seq (.reg [
   ⟨(some 1), none, .x (.box 46 2 (.t 0))⟩,
   ⟨(some 2), none, .f (.mv (.c .nilslice))⟩,
   ⟨(some 3), none, .f (.mv (.c (.int .i64 0)))⟩])
 (.seq (.seq (.reg [
   ⟨(some 4), none, .f (.fadr 0 (.t 1))⟩,
   ⟨(some 5), none, .f (.ld (.t 4))⟩,
   ⟨(some 6), none, .f (.bin .lss (.t 5) (.c (.int .i64 0)))⟩,
   ⟨(some 7), none, .f (.mv (.t 6))⟩,
   ⟨(some 8), (some (7, false)), .f (.fadr 0 (.t 1))⟩,
   ⟨(some 9), (some (7, false)), .f (.ld (.t 8))⟩,
   ⟨(some 10), (some (7, false)), .f (.bin .gtr (.t 9) (.c (.int .i64 65535)))⟩,
   ⟨(some 11), none, .f (.pick (.t 7) (.c (.bool true)) (.t 10))⟩,
   ⟨(some 12), none, .f (.mv (.t 11))⟩,
   ⟨(some 13), (some (12, false)), .f (.fadr 1 (.t 1))⟩,
   ⟨(some 14), (some (12, false)), .f (.ld (.t 13))⟩,
   ⟨(some 15), (some (12, false)), .x (.call 80 [(.t 14)])⟩,
   ⟨(some 16), (some (12, false)), .f (.un .not (.t 15))⟩,
   ⟨(some 17), none, .f (.pick (.t 12) (.c (.bool true)) (.t 16))⟩])
 (.cond (.t 17)
  (.seq (.reg [
    ⟨(some 2), none, .f (.mv (.c .nilslice))⟩,
    ⟨(some 3), none, .f (.mv (.c (.int .i64 1)))⟩])
  .ret)
  .skip))
 (.seq (.treg [
   ⟨(some 18), none, .f (.fadr 0 (.t 1))⟩,
   ⟨(some 19), none, .f (.ld (.t 18))⟩,
   ⟨(some 20), none, .x (.call 81 [(.c .nilslice), (.c (.int .i64 2)), (.t 19)])⟩,
   ⟨(some 21), none, .f (.fadr 1 (.t 1))⟩,
   ⟨(some 22), none, .f (.ld (.t 21))⟩,
   ⟨(some 23), none, .f (.lenS (.t 22))⟩,
   ⟨(some 24), none, .f (.cvI .u8 (.t 23))⟩,
   ⟨(some 25), none, .x (.bslice 5 1 [(.int .u8 0)] 2 [(0, (.c (.int .u8 0))), (1, (.t 24))])⟩,
   ⟨(some 26), none, .x (.app 5 1 1 (.t 20) (.t 25))⟩,
   ⟨(some 27), none, .f (.fadr 1 (.t 1))⟩,
   ⟨(some 28), none, .f (.ld (.t 27))⟩,
   ⟨(some 29), none, .x (.appS 5 1 (.t 26) (.t 28))⟩,
   ⟨(some 2), none, .f (.mv (.t 29))⟩,
   ⟨(some 3), none, .f (.mv (.c (.int .i64 0)))⟩]
   [[], [0], [1, 0], [], [3], [4, 3], [5, 4, 3], [6, 5, 4, 3], [2, 1, 0, 7, 6, 5, 4, 3], [], [9], [8, 2, 1, 0, 7, 6, 5, 4, 3, 10, 9], [11, 8, 2, 1, 0, 7, 6, 5, 4, 3, 10, 9], [12, 11, 8, 2, 1, 0, 7, 6, 5, 4, 3, 10, 9]] (.fl 0 (.fl 1 (.fl 3 (.fl 4 (.fl 5 (.fl 6 (.fl 9 (.fl 10 (.br 2 (.br 7 (.br 8 (.br 11 (.fl 12 (.fl 13 .fin)) .stop) .stop) .stop) (.br 7 (.br 2 (.br 8 (.br 11 (.fl 12 (.fl 13 .fin)) .stop) .stop) .stop) .stop)))))))))))
 .ret)))
theorem ok28 : fnComp Tryd.prog 28 = some (30, c28, [(.mv (.t 2)), (.mv (.t 3))]) := by kernel_rfl

/-- loop.example/g00003/spec.l10PortOK -/
def c76 : CC :=
 (.seq (.reg [
   ⟨(some 2), none, .f (.mv (.c (.bool false)))⟩])
 (.seq (.reg [
   ⟨(some 3), none, .f (.mv (.t 0))⟩,
   ⟨(some 4), none, .x (.call 128 [(.t 3), (.c (.int .i64 0)), (.c (.int .i64 65535))])⟩,
   ⟨(some 2), none, .f (.mv (.t 4))⟩])
 .ret))
theorem ok76 : fnComp Tryd.prog 76 = some (5, c76, [(.mv (.t 2))]) := by kernel_rfl

/-- loop.example/g00003/spec.l01Join -/
def c78 : CC :=
 (.seq (.reg [
   ⟨(some 4), none, .f (.mv (.c .nilslice))⟩])
 (.seq (.reg [
   ⟨(some 7), none, .f (.mv (.t 0))⟩,
   ⟨(some 8), none, .x (.call 109 [(.t 7)])⟩,
   ⟨(some 5), none, .f (.mv (.t 8))⟩])
 (.seq (.seq (.reg [
   ⟨(some 6), none, .f (.mv (.c (.int .i64 0)))⟩])
 (.block 0 (.loop (.seq (.seq (.reg [
     ⟨(some 9), none, .f (.mv (.t 6))⟩,
     ⟨(some 10), none, .f (.mv (.t 1))⟩,
     ⟨(some 11), none, .f (.len (.t 10))⟩,
     ⟨(some 12), none, .f (.bin .lss (.t 9) (.t 11))⟩])
   (.cond (.t 12)
    .skip
    (.exit 0)))
   (.seq (.block 1 (.reg [
      ⟨(some 15), none, .f (.mv (.t 5))⟩,
      ⟨(some 16), none, .f (.mv (.t 1))⟩,
      ⟨(some 17), none, .f (.mv (.t 6))⟩,
      ⟨(some 18), none, .f (.iadr 1 (.t 16) (.t 17))⟩,
      ⟨(some 19), none, .f (.ld (.t 18))⟩,
      ⟨(some 20), none, .x (.bslice 5 1 [(.int .u8 0)] 1 [(0, (.t 19))])⟩,
      ⟨(some 21), none, .x (.app 5 1 1 (.t 15) (.t 20))⟩,
      ⟨(some 5), none, .f (.mv (.t 21))⟩]))
   (.reg [
     ⟨(some 13), none, .f (.mv (.t 6))⟩,
     ⟨(some 14), none, .f (.bin .add (.t 13) (.c (.int .i64 1)))⟩,
     ⟨(some 6), none, .f (.mv (.t 14))⟩]))))))
 (.seq (.reg [
   ⟨(some 22), none, .f (.mv (.t 5))⟩,
   ⟨(some 4), none, .f (.mv (.t 22))⟩])
 .ret))))
theorem ok78 : fnComp Tryd.prog 78 = some (23, c78, [(.mv (.t 4))]) := by kernel_rfl

/-- loop.example/g00003/spec.l03Put -/
def c79 : CC :=
 (.seq (.reg [
   ⟨(some 4), none, .f (.mv (.c .nilslice))⟩])
 (.seq (.reg [
   ⟨(some 7), none, .x (.bslice 5 1 [(.int .u8 0)] 0 [])⟩,
   ⟨(some 5), none, .f (.mv (.t 7))⟩])
 (.seq (.seq (.reg [
   ⟨(some 8), none, .f (.mv (.t 1))⟩,
   ⟨(some 9), none, .f (.bin .sub (.t 8) (.c (.int .i64 1)))⟩,
   ⟨(some 6), none, .f (.mv (.t 9))⟩])
 (.block 0 (.loop (.seq (.seq (.reg [
     ⟨(some 10), none, .f (.mv (.t 6))⟩,
     ⟨(some 11), none, .f (.bin .geq (.t 10) (.c (.int .i64 0)))⟩])
   (.cond (.t 11)
    .skip
    (.exit 0)))
   (.seq (.block 1 (.reg [
      ⟨(some 14), none, .f (.mv (.t 5))⟩,
      ⟨(some 15), none, .f (.mv (.t 0))⟩,
      ⟨(some 16), none, .f (.mv (.t 6))⟩,
      ⟨(some 17), none, .f (.bin .mul (.c (.int .i64 8)) (.t 16))⟩,
      ⟨(some 18), none, .f (.cvI .u64 (.t 17))⟩,
      ⟨(some 19), none, .f (.bin .shr (.t 15) (.t 18))⟩,
      ⟨(some 20), none, .f (.cvI .u8 (.t 19))⟩,
      ⟨(some 21), none, .x (.bslice 5 1 [(.int .u8 0)] 1 [(0, (.t 20))])⟩,
      ⟨(some 22), none, .x (.app 5 1 1 (.t 14) (.t 21))⟩,
      ⟨(some 5), none, .f (.mv (.t 22))⟩]))
   (.reg [
     ⟨(some 12), none, .f (.mv (.t 6))⟩,
     ⟨(some 13), none, .f (.bin .sub (.t 12) (.c (.int .i64 1)))⟩,
     ⟨(some 6), none, .f (.mv (.t 13))⟩]))))))
 (.seq (.reg [
   ⟨(some 23), none, .f (.mv (.t 5))⟩,
   ⟨(some 4), none, .f (.mv (.t 23))⟩])
 .ret))))
theorem ok79 : fnComp Tryd.prog 79 = some (24, c79, [(.mv (.t 4))]) := by kernel_rfl

/-- loop.example/g00003/impl.put -/
def c81 : CC :=
 (.seq (.reg [
   ⟨(some 6), none, .f (.mv (.c .nilslice))⟩])
 (.seq (.seq (.reg [
   ⟨(some 8), none, .f (.mv (.t 1))⟩,
   ⟨(some 9), none, .f (.bin .sub (.t 8) (.c (.int .i64 1)))⟩,
   ⟨(some 7), none, .f (.mv (.t 9))⟩])
 (.block 0 (.loop (.seq (.seq (.reg [
     ⟨(some 10), none, .f (.mv (.t 7))⟩,
     ⟨(some 11), none, .f (.bin .geq (.t 10) (.c (.int .i64 0)))⟩])
   (.cond (.t 11)
    .skip
    (.exit 0)))
   (.seq (.block 1 (.reg [
      ⟨(some 14), none, .f (.mv (.t 0))⟩,
      ⟨(some 15), none, .f (.mv (.t 2))⟩,
      ⟨(some 16), none, .f (.cvI .u64 (.t 15))⟩,
      ⟨(some 17), none, .f (.mv (.t 7))⟩,
      ⟨(some 18), none, .f (.bin .mul (.c (.int .i64 8)) (.t 17))⟩,
      ⟨(some 19), none, .f (.bin .shr (.t 16) (.t 18))⟩,
      ⟨(some 20), none, .f (.cvI .u8 (.t 19))⟩,
      ⟨(some 21), none, .x (.bslice 5 1 [(.int .u8 0)] 1 [(0, (.t 20))])⟩,
      ⟨(some 22), none, .x (.app 5 1 1 (.t 14) (.t 21))⟩,
      ⟨(some 0), none, .f (.mv (.t 22))⟩]))
   (.reg [
     ⟨(some 12), none, .f (.mv (.t 7))⟩,
     ⟨(some 13), none, .f (.bin .sub (.t 12) (.c (.int .i64 1)))⟩,
     ⟨(some 7), none, .f (.mv (.t 13))⟩]))))))
 (.seq (.reg [
   ⟨(some 23), none, .f (.mv (.t 0))⟩,
   ⟨(some 6), none, .f (.mv (.t 23))⟩])
 .ret)))
theorem ok81 : fnComp Tryd.prog 81 = some (24, c81, [(.mv (.t 6))]) := by kernel_rfl

/-- loop.example/g00003/spec.l01Copy -/
def c109 : CC :=
 (.seq (.reg [
   ⟨(some 2), none, .f (.mv (.c .nilslice))⟩])
 (.seq (.reg [
   ⟨(some 5), none, .x (.bslice 5 1 [(.int .u8 0)] 0 [])⟩,
   ⟨(some 3), none, .f (.mv (.t 5))⟩])
 (.seq (.seq (.reg [
   ⟨(some 4), none, .f (.mv (.c (.int .i64 0)))⟩])
 (.block 0 (.loop (.seq (.seq (.reg [
     ⟨(some 6), none, .f (.mv (.t 4))⟩,
     ⟨(some 7), none, .f (.mv (.t 0))⟩,
     ⟨(some 8), none, .f (.len (.t 7))⟩,
     ⟨(some 9), none, .f (.bin .lss (.t 6) (.t 8))⟩])
   (.cond (.t 9)
    .skip
    (.exit 0)))
   (.seq (.block 1 (.reg [
      ⟨(some 12), none, .f (.mv (.t 3))⟩,
      ⟨(some 13), none, .f (.mv (.t 0))⟩,
      ⟨(some 14), none, .f (.mv (.t 4))⟩,
      ⟨(some 15), none, .f (.iadr 1 (.t 13) (.t 14))⟩,
      ⟨(some 16), none, .f (.ld (.t 15))⟩,
      ⟨(some 17), none, .x (.bslice 5 1 [(.int .u8 0)] 1 [(0, (.t 16))])⟩,
      ⟨(some 18), none, .x (.app 5 1 1 (.t 12) (.t 17))⟩,
      ⟨(some 3), none, .f (.mv (.t 18))⟩]))
   (.reg [
     ⟨(some 10), none, .f (.mv (.t 4))⟩,
     ⟨(some 11), none, .f (.bin .add (.t 10) (.c (.int .i64 1)))⟩,
     ⟨(some 4), none, .f (.mv (.t 11))⟩]))))))
 (.seq (.reg [
   ⟨(some 19), none, .f (.mv (.t 3))⟩,
   ⟨(some 2), none, .f (.mv (.t 19))⟩])
 .ret))))
theorem ok109 : fnComp Tryd.prog 109 = some (20, c109, [(.mv (.t 2))]) := by kernel_rfl

/-- loop.example/g00003/spec.l01In -/
def c128 : CC :=
 (.seq (.reg [
   ⟨(some 6), none, .f (.mv (.c (.bool false)))⟩])
 (.seq (.reg [
   ⟨(some 7), none, .f (.mv (.t 0))⟩,
   ⟨(some 8), none, .f (.mv (.t 1))⟩,
   ⟨(some 9), none, .f (.bin .geq (.t 7) (.t 8))⟩,
   ⟨(some 10), none, .f (.mv (.t 9))⟩,
   ⟨(some 11), (some (10, true)), .f (.mv (.t 0))⟩,
   ⟨(some 12), (some (10, true)), .f (.mv (.t 2))⟩,
   ⟨(some 13), (some (10, true)), .f (.bin .leq (.t 11) (.t 12))⟩,
   ⟨(some 14), none, .f (.pick (.t 10) (.t 13) (.c (.bool false)))⟩,
   ⟨(some 6), none, .f (.mv (.t 14))⟩])
 .ret))
theorem ok128 : fnComp Tryd.prog 128 = some (15, c128, [(.mv (.t 6))]) := by kernel_rfl

/-- loop.example/g00003/spec.DecodeQuery -/
def c36 : CC :=
 (.seq (.reg [
   ⟨(some 2), none, .x (.zero 46 2 [(.int .i64 0), (.str [])])⟩,
   ⟨(some 3), none, .f (.mv (.c (.int .i64 0)))⟩])
 (.seq (.reg [
   ⟨(some 7), none, .f (.mv (.t 0))⟩,
   ⟨(some 8), none, .x (.call 90 [(.t 7), (.c (.int .i64 3))])⟩,
   ⟨(some 6), none, .f (.mv (.t 8))⟩,
   ⟨(some 9), none, .f (.ext 0 (.t 6))⟩,
   ⟨(some 10), none, .f (.ext 1 (.t 6))⟩,
   ⟨(some 4), none, .f (.mv (.t 9))⟩,
   ⟨(some 5), none, .f (.mv (.t 10))⟩])
 (.seq (.block 0 (.seq (.reg [
    ⟨(some 12), none, .f (.mv (.t 5))⟩,
    ⟨(some 13), none, .f (.bin .lss (.t 12) (.c (.int .i64 0)))⟩,
    ⟨(some 11), none, .f (.mv (.t 13))⟩])
  (.cond (.t 11)
   (.seq (.reg [
     ⟨(some 14), none, .f (.build [(.int .i64 0), (.str [])] [])⟩,
     ⟨none, none, .x (.st 2 (.t 2) (.t 14))⟩,
     ⟨(some 3), none, .f (.mv (.c (.int .i64 2)))⟩])
   .ret)
   (.seq (.reg [
     ⟨(some 16), none, .f (.mv (.t 5))⟩,
     ⟨(some 17), none, .f (.mv (.t 0))⟩,
     ⟨(some 18), none, .f (.len (.t 17))⟩,
     ⟨(some 19), none, .f (.bin .lss (.t 16) (.t 18))⟩,
     ⟨(some 15), none, .f (.mv (.t 19))⟩])
   (.cond (.t 15)
    (.seq (.reg [
      ⟨(some 20), none, .f (.build [(.int .i64 0), (.str [])] [])⟩,
      ⟨none, none, .x (.st 2 (.t 2) (.t 20))⟩,
      ⟨(some 3), none, .f (.mv (.c (.int .i64 5)))⟩])
    .ret)
    (.seq (.reg [
      ⟨(some 22), none, .f (.mv (.t 0))⟩,
      ⟨(some 23), none, .f (.iadr 1 (.t 22) (.c (.int .i64 2)))⟩,
      ⟨(some 24), none, .f (.ld (.t 23))⟩,
      ⟨(some 25), none, .f (.bin .neq (.t 24) (.c (.int .u8 0)))⟩,
      ⟨(some 21), none, .f (.mv (.t 25))⟩])
    (.cond (.t 21)
     (.seq (.reg [
       ⟨(some 26), none, .f (.build [(.int .i64 0), (.str [])] [])⟩,
       ⟨none, none, .x (.st 2 (.t 2) (.t 26))⟩,
       ⟨(some 3), none, .f (.mv (.c (.int .i64 9)))⟩])
     .ret)
     (.seq (.reg [
       ⟨(some 28), none, .f (.mv (.t 4))⟩,
       ⟨(some 29), none, .x (.call 77 [(.t 28)])⟩,
       ⟨(some 30), none, .f (.un .not (.t 29))⟩,
       ⟨(some 27), none, .f (.mv (.t 30))⟩])
     (.cond (.t 27)
      (.seq (.reg [
        ⟨(some 31), none, .f (.build [(.int .i64 0), (.str [])] [])⟩,
        ⟨none, none, .x (.st 2 (.t 2) (.t 31))⟩,
        ⟨(some 3), none, .f (.mv (.c (.int .i64 6)))⟩])
      .ret)
      .skip)))))))))
 (.seq (.reg [
   ⟨(some 32), none, .f (.mv (.t 0))⟩,
   ⟨(some 33), none, .f (.slc 1 (.t 32) none (some (.c (.int .i64 2))) none)⟩,
   ⟨(some 34), none, .x (.call 91 [(.t 33)])⟩,
   ⟨(some 35), none, .f (.mv (.t 4))⟩,
   ⟨(some 36), none, .f (.build [(.int .i64 0), (.str [])] [(0, 1, (.t 34)), (1, 1, (.t 35))])⟩,
   ⟨none, none, .x (.st 2 (.t 2) (.t 36))⟩,
   ⟨(some 3), none, .f (.mv (.c (.int .i64 0)))⟩])
 .ret))))
theorem ok36 : fnComp Tryd.prog 36 = some (37, c36, [(.ldA 2 (.t 2)), (.mv (.t 3))]) := by kernel_rfl

/-- loop.example/g00003/impl.DecodeQuery -/
def c29 : CC :=
 (.seq (.reg [
   ⟨(some 2), none, .x (.zero 46 2 [(.int .i64 0), (.str [])])⟩,
   ⟨(some 3), none, .f (.mv (.c (.int .i64 0)))⟩])
 (.seq (.reg [
   ⟨(some 8), none, .f (.mv (.t 0))⟩,
   ⟨(some 9), none, .f (.build [.nilslice, (.bool false)] [(0, 1, (.t 8))])⟩,
   ⟨(some 10), none, .x (.box 130 2 (.t 9))⟩,
   ⟨(some 4), none, .f (.mv (.t 10))⟩])
 (.seq (.reg [
   ⟨(some 11), none, .f (.mv (.t 4))⟩,
   ⟨(some 12), none, .x (.call 82 [(.t 11), (.c (.int .i64 2))])⟩,
   ⟨(some 13), none, .f (.build [(.int .i64 0), (.str [])] [(0, 1, (.t 12))])⟩,
   ⟨(some 5), none, .x (.zero 46 2 [(.int .i64 0), (.str [])])⟩,
   ⟨none, none, .x (.st 2 (.t 5) (.t 13))⟩])
 (.seq (.reg [
   ⟨(some 14), none, .f (.mv (.t 4))⟩,
   ⟨(some 15), none, .x (.call 82 [(.t 14), (.c (.int .i64 1))])⟩,
   ⟨(some 6), none, .f (.mv (.t 15))⟩])
 (.seq (.reg [
   ⟨(some 16), none, .f (.mv (.t 4))⟩,
   ⟨(some 17), none, .f (.mv (.t 4))⟩,
   ⟨(some 18), none, .x (.call 82 [(.t 17), (.c (.int .i64 1))])⟩,
   ⟨(some 19), none, .x (.call 83 [(.t 16), (.t 18)])⟩,
   ⟨(some 20), none, .f (.b2s (.t 19))⟩,
   ⟨(some 21), none, .f (.fadr 1 (.t 5))⟩,
   ⟨none, none, .x (.st 1 (.t 21) (.t 20))⟩])
 (.seq (.seq (.reg [
   ⟨(some 22), none, .f (.mv (.t 4))⟩,
   ⟨(some 23), none, .f (.mv (.t 6))⟩,
   ⟨(some 24), none, .f (.fadr 1 (.t 5))⟩,
   ⟨(some 25), none, .f (.ld (.t 24))⟩,
   ⟨(some 26), none, .x (.call 84 [(.t 22), (.t 23), (.c (.int .i64 0)), (.t 25)])⟩,
   ⟨(some 7), none, .f (.mv (.t 26))⟩])
 (.seq (.reg [
   ⟨(some 27), none, .f (.mv (.t 7))⟩,
   ⟨(some 28), none, .f (.bin .neq (.t 27) (.c (.int .i64 0)))⟩])
 (.cond (.t 28)
  (.seq (.reg [
    ⟨(some 29), none, .f (.build [(.int .i64 0), (.str [])] [])⟩,
    ⟨(some 30), none, .f (.mv (.t 7))⟩,
    ⟨none, none, .x (.st 2 (.t 2) (.t 29))⟩,
    ⟨(some 3), none, .f (.mv (.t 30))⟩])
  .ret)
  .skip)))
 (.seq (.reg [
   ⟨(some 31), none, .f (.ldA 2 (.t 5))⟩,
   ⟨none, none, .x (.st 2 (.t 2) (.t 31))⟩,
   ⟨(some 3), none, .f (.mv (.c (.int .i64 0)))⟩])
 .ret)))))))
theorem ok29 : fnComp Tryd.prog 29 = some (32, c29, [(.ldA 2 (.t 2)), (.mv (.t 3))]) := by kernel_rfl

/-- loop.example/g00003/spec.l19Text -/
def c90 : CC :=
 (.seq (.reg [
   ⟨(some 4), none, .f (.mv (.c (.str [])))⟩,
   ⟨(some 5), none, .f (.mv (.c (.int .i64 0)))⟩])
 (.seq (.seq (.reg [
   ⟨(some 7), none, .f (.mv (.t 1))⟩,
   ⟨(some 8), none, .f (.bin .lss (.t 7) (.c (.int .i64 0)))⟩,
   ⟨(some 9), none, .f (.mv (.t 8))⟩,
   ⟨(some 10), (some (9, false)), .f (.mv (.t 1))⟩,
   ⟨(some 11), (some (9, false)), .f (.mv (.t 0))⟩,
   ⟨(some 12), (some (9, false)), .f (.len (.t 11))⟩,
   ⟨(some 13), (some (9, false)), .f (.bin .geq (.t 10) (.t 12))⟩,
   ⟨(some 14), none, .f (.pick (.t 9) (.c (.bool true)) (.t 13))⟩,
   ⟨(some 15), none, .f (.mv (.t 14))⟩,
   ⟨(some 16), (some (15, false)), .f (.mv (.t 1))⟩,
   ⟨(some 17), (some (15, false)), .f (.bin .add (.t 16) (.c (.int .i64 1)))⟩,
   ⟨(some 18), (some (15, false)), .f (.mv (.t 0))⟩,
   ⟨(some 19), (some (15, false)), .f (.mv (.t 1))⟩,
   ⟨(some 20), (some (15, false)), .f (.iadr 1 (.t 18) (.t 19))⟩,
   ⟨(some 21), (some (15, false)), .f (.ld (.t 20))⟩,
   ⟨(some 22), (some (15, false)), .f (.cvI .i64 (.t 21))⟩,
   ⟨(some 23), (some (15, false)), .f (.bin .add (.t 17) (.t 22))⟩,
   ⟨(some 24), (some (15, false)), .f (.mv (.t 0))⟩,
   ⟨(some 25), (some (15, false)), .f (.len (.t 24))⟩,
   ⟨(some 26), (some (15, false)), .f (.bin .gtr (.t 23) (.t 25))⟩,
   ⟨(some 27), none, .f (.pick (.t 15) (.c (.bool true)) (.t 26))⟩])
 (.cond (.t 27)
  (.seq (.reg [
    ⟨(some 4), none, .f (.mv (.c (.str [])))⟩,
    ⟨(some 5), none, .f (.mv (.c (.int .i64 (-1))))⟩])
  .ret)
  .skip))
 (.seq (.reg [
   ⟨(some 28), none, .f (.mv (.t 1))⟩,
   ⟨(some 29), none, .f (.bin .add (.t 28) (.c (.int .i64 1)))⟩,
   ⟨(some 30), none, .f (.mv (.t 0))⟩,
   ⟨(some 31), none, .f (.mv (.t 1))⟩,
   ⟨(some 32), none, .f (.iadr 1 (.t 30) (.t 31))⟩,
   ⟨(some 33), none, .f (.ld (.t 32))⟩,
   ⟨(some 34), none, .f (.cvI .i64 (.t 33))⟩,
   ⟨(some 35), none, .f (.bin .add (.t 29) (.t 34))⟩,
   ⟨(some 6), none, .f (.mv (.t 35))⟩])
 (.seq (.reg [
   ⟨(some 36), none, .f (.mv (.t 0))⟩,
   ⟨(some 37), none, .f (.mv (.t 1))⟩,
   ⟨(some 38), none, .f (.bin .add (.t 37) (.c (.int .i64 1)))⟩,
   ⟨(some 39), none, .f (.mv (.t 6))⟩,
   ⟨(some 40), none, .f (.slc 1 (.t 36) (some (.t 38)) (some (.t 39)) none)⟩,
   ⟨(some 41), none, .f (.b2s (.t 40))⟩,
   ⟨(some 42), none, .f (.mv (.t 6))⟩,
   ⟨(some 4), none, .f (.mv (.t 41))⟩,
   ⟨(some 5), none, .f (.mv (.t 42))⟩])
 .ret))))
theorem ok90 : fnComp Tryd.prog 90 = some (43, c90, [(.mv (.t 4)), (.mv (.t 5))]) := by kernel_rfl

/-- loop.example/g00003/spec.l03Num -/
def c91 : CC :=
 (.seq (.reg [
   ⟨(some 2), none, .f (.mv (.c (.int .i64 0)))⟩])
 (.seq (.reg [
   ⟨(some 3), none, .f (.mv (.c (.int .i64 0)))⟩])
 (.seq (.seq (.reg [
   ⟨(some 4), none, .f (.mv (.c (.int .i64 0)))⟩])
 (.block 0 (.loop (.seq (.seq (.reg [
     ⟨(some 5), none, .f (.mv (.t 4))⟩,
     ⟨(some 6), none, .f (.mv (.t 0))⟩,
     ⟨(some 7), none, .f (.len (.t 6))⟩,
     ⟨(some 8), none, .f (.bin .lss (.t 5) (.t 7))⟩])
   (.cond (.t 8)
    .skip
    (.exit 0)))
   (.seq (.block 1 (.reg [
      ⟨(some 11), none, .f (.mv (.t 3))⟩,
      ⟨(some 12), none, .f (.bin .mul (.t 11) (.c (.int .i64 256)))⟩,
      ⟨(some 13), none, .f (.mv (.t 0))⟩,
      ⟨(some 14), none, .f (.mv (.t 4))⟩,
      ⟨(some 15), none, .f (.iadr 1 (.t 13) (.t 14))⟩,
      ⟨(some 16), none, .f (.ld (.t 15))⟩,
      ⟨(some 17), none, .f (.cvI .i64 (.t 16))⟩,
      ⟨(some 18), none, .f (.bin .add (.t 12) (.t 17))⟩,
      ⟨(some 3), none, .f (.mv (.t 18))⟩]))
   (.reg [
     ⟨(some 9), none, .f (.mv (.t 4))⟩,
     ⟨(some 10), none, .f (.bin .add (.t 9) (.c (.int .i64 1)))⟩,
     ⟨(some 4), none, .f (.mv (.t 10))⟩]))))))
 (.seq (.reg [
   ⟨(some 19), none, .f (.mv (.t 3))⟩,
   ⟨(some 2), none, .f (.mv (.t 19))⟩])
 .ret))))
theorem ok91 : fnComp Tryd.prog 91 = some (20, c91, [(.mv (.t 2))]) := by kernel_rfl

/-- (*loop.example/g00003/impl.bites).num -/
def c82 : CC :=
 (.seq (.reg [
   ⟨(some 4), none, .f (.mv (.c (.int .i64 0)))⟩])
 (.seq (.reg [
   ⟨(some 5), none, .f (.mv (.t 0))⟩,
   ⟨(some 6), none, .f (.mv (.t 1))⟩,
   ⟨(some 7), none, .x (.call 83 [(.t 5), (.t 6)])⟩,
   ⟨(some 8), none, .x (.call 130 [(.t 7)])⟩,
   ⟨(some 4), none, .f (.mv (.t 8))⟩])
 .ret))
theorem ok82 : fnComp Tryd.prog 82 = some (9, c82, [(.mv (.t 4))]) := by kernel_rfl

/-- (*loop.example/g00003/impl.bites).take -/
def c83 : CC :=
 (.seq (.reg [
   ⟨(some 4), none, .f (.mv (.c .nilslice))⟩])
 (.seq (.seq (.reg [
   ⟨(some 6), none, .f (.mv (.t 1))⟩,
   ⟨(some 7), none, .f (.mv (.t 0))⟩,
   ⟨(some 8), none, .f (.nck (.t 7))⟩,
   ⟨(some 9), none, .f (.fadr 0 (.t 8))⟩,
   ⟨(some 10), none, .f (.ld (.t 9))⟩,
   ⟨(some 11), none, .f (.len (.t 10))⟩,
   ⟨(some 12), none, .f (.bin .gtr (.t 6) (.t 11))⟩])
 (.cond (.t 12)
  (.seq (.reg [
    ⟨(some 13), none, .f (.mv (.t 0))⟩,
    ⟨(some 14), none, .f (.nck (.t 13))⟩,
    ⟨(some 15), none, .f (.fadr 1 (.t 14))⟩,
    ⟨none, none, .x (.st 1 (.t 15) (.c (.bool true)))⟩])
  (.seq (.reg [
    ⟨(some 16), none, .f (.mv (.t 0))⟩,
    ⟨(some 17), none, .f (.nck (.t 16))⟩,
    ⟨(some 18), none, .f (.fadr 0 (.t 17))⟩,
    ⟨none, none, .x (.st 1 (.t 18) (.c .nilslice))⟩])
  (.seq (.reg [
    ⟨(some 19), none, .f (.mv (.t 1))⟩,
    ⟨(some 20), none, .f (.mm false (.t 19) (.c (.int .i64 8)))⟩,
    ⟨(some 21), none, .x (.mks 5 1 1 [(.int .u8 0)] (.t 20) (.t 20))⟩,
    ⟨(some 4), none, .f (.mv (.t 21))⟩])
  .ret)))
  .skip))
 (.seq (.reg [
   ⟨(some 22), none, .f (.mv (.t 0))⟩,
   ⟨(some 23), none, .f (.nck (.t 22))⟩,
   ⟨(some 24), none, .f (.fadr 0 (.t 23))⟩,
   ⟨(some 25), none, .f (.ld (.t 24))⟩,
   ⟨(some 26), none, .f (.mv (.t 1))⟩,
   ⟨(some 27), none, .f (.slc 1 (.t 25) none (some (.t 26)) none)⟩,
   ⟨(some 5), none, .f (.mv (.t 27))⟩])
 (.seq (.reg [
   ⟨(some 28), none, .f (.mv (.t 0))⟩,
   ⟨(some 29), none, .f (.mv (.t 0))⟩,
   ⟨(some 30), none, .f (.nck (.t 29))⟩,
   ⟨(some 31), none, .f (.fadr 0 (.t 30))⟩,
   ⟨(some 32), none, .f (.ld (.t 31))⟩,
   ⟨(some 33), none, .f (.mv (.t 1))⟩,
   ⟨(some 34), none, .f (.slc 1 (.t 32) (some (.t 33)) none none)⟩,
   ⟨(some 35), none, .f (.nck (.t 28))⟩,
   ⟨(some 36), none, .f (.fadr 0 (.t 35))⟩,
   ⟨none, none, .x (.st 1 (.t 36) (.t 34))⟩])
 (.seq (.reg [
   ⟨(some 37), none, .f (.mv (.t 5))⟩,
   ⟨(some 4), none, .f (.mv (.t 37))⟩])
 .ret)))))
theorem ok83 : fnComp Tryd.prog 83 = some (38, c83, [(.mv (.t 4))]) := by kernel_rfl

/-- (*loop.example/g00003/impl.bites).code -/
def c84 : CC :=
 (.seq (.reg [
   ⟨(some 8), none, .f (.mv (.c (.int .i64 0)))⟩])
 (.seq (.block 0 (.seq (.reg [
    ⟨(some 10), none, .f (.mv (.t 0))⟩,
    ⟨(some 11), none, .f (.nck (.t 10))⟩,
    ⟨(some 12), none, .f (.fadr 1 (.t 11))⟩,
    ⟨(some 13), none, .f (.ld (.t 12))⟩,
    ⟨(some 9), none, .f (.mv (.t 13))⟩])
  (.cond (.t 9)
   (.seq (.reg [
     ⟨(some 8), none, .f (.mv (.c (.int .i64 2)))⟩])
   .ret)
   (.seq (.reg [
     ⟨(some 15), none, .f (.mv (.t 0))⟩,
     ⟨(some 16), none, .f (.nck (.t 15))⟩,
     ⟨(some 17), none, .f (.fadr 0 (.t 16))⟩,
     ⟨(some 18), none, .f (.ld (.t 17))⟩,
     ⟨(some 19), none, .f (.len (.t 18))⟩,
     ⟨(some 20), none, .f (.bin .gtr (.t 19) (.c (.int .i64 0)))⟩,
     ⟨(some 14), none, .f (.mv (.t 20))⟩])
   (.cond (.t 14)
    (.seq (.reg [
      ⟨(some 8), none, .f (.mv (.c (.int .i64 5)))⟩])
    .ret)
    (.seq (.reg [
      ⟨(some 22), none, .f (.mv (.t 1))⟩,
      ⟨(some 23), none, .f (.mv (.t 2))⟩,
      ⟨(some 24), none, .f (.bin .neq (.t 22) (.t 23))⟩,
      ⟨(some 21), none, .f (.mv (.t 24))⟩])
    (.cond (.t 21)
     (.seq (.reg [
       ⟨(some 8), none, .f (.mv (.c (.int .i64 9)))⟩])
     .ret)
     (.seq (.reg [
       ⟨(some 26), none, .f (.mv (.t 3))⟩,
       ⟨(some 27), none, .x (.call 80 [(.t 26)])⟩,
       ⟨(some 28), none, .f (.un .not (.t 27))⟩,
       ⟨(some 25), none, .f (.mv (.t 28))⟩])
     (.cond (.t 25)
      (.seq (.reg [
        ⟨(some 8), none, .f (.mv (.c (.int .i64 6)))⟩])
      .ret)
      .skip)))))))))
 (.seq (.reg [
   ⟨(some 8), none, .f (.mv (.c (.int .i64 0)))⟩])
 .ret)))
theorem ok84 : fnComp Tryd.prog 84 = some (29, c84, [(.mv (.t 8))]) := by kernel_rfl

/-- loop.example/g00003/impl.get -/
def c130 : CC :=
 (.seq (.reg [
   ⟨(some 2), none, .f (.mv (.c (.int .i64 0)))⟩])
 (.seq (.reg [
   ⟨(some 3), none, .f (.mv (.c (.int .i64 0)))⟩])
 (.seq (.seq (.reg [
   ⟨(some 6), none, .f (.mv (.t 0))⟩,
   ⟨(some 7), none, .f (.len (.t 6))⟩,
   ⟨(some 8), none, .f (.mv (.c (.int .i64 0)))⟩])
 (.block 0 (.loop (.seq (.reg [
     ⟨(some 9), none, .f (.bin .lss (.t 8) (.t 7))⟩])
   (.seq (.cond (.t 9)
    .skip
    (.exit 0))
   (.seq (.block 1 (.seq (.reg [
      ⟨(some 10), none, .f (.iadr 1 (.t 6) (.t 8))⟩,
      ⟨(some 11), none, .f (.ld (.t 10))⟩,
      ⟨(some 5), none, .f (.mv (.t 11))⟩])
    (.reg [
      ⟨(some 12), none, .f (.mv (.t 3))⟩,
      ⟨(some 13), none, .f (.bin .shl (.t 12) (.c (.int .u64 8)))⟩,
      ⟨(some 14), none, .f (.mv (.t 5))⟩,
      ⟨(some 15), none, .f (.cvI .i64 (.t 14))⟩,
      ⟨(some 16), none, .f (.bin .or (.t 13) (.t 15))⟩,
      ⟨(some 3), none, .f (.mv (.t 16))⟩])))
   (.reg [
     ⟨(some 17), none, .f (.bin .add (.t 8) (.c (.int .i64 1)))⟩,
     ⟨(some 8), none, .f (.mv (.t 17))⟩])))))))
 (.seq (.reg [
   ⟨(some 18), none, .f (.mv (.t 3))⟩,
   ⟨(some 2), none, .f (.mv (.t 18))⟩])
 .ret))))
theorem ok130 : fnComp Tryd.prog 130 = some (19, c130, [(.mv (.t 2))]) := by kernel_rfl

/-- loop.example/g00003/spec.EncodeReply -/
def c31 : CC :=
 (.seq (.reg [
   ⟨(some 1), none, .x (.box 54 5 (.t 0))⟩,
   ⟨(some 2), none, .f (.mv (.c .nilslice))⟩,
   ⟨(some 3), none, .f (.mv (.c (.int .i64 0)))⟩])
 (.seq (.seq (.reg [
   ⟨(some 6), none, .f (.ldA 5 (.t 1))⟩,
   ⟨(some 7), none, .x (.call 86 [(.t 6)])⟩,
   ⟨(some 8), none, .f (.un .not (.t 7))⟩])
 (.cond (.t 8)
  (.seq (.reg [
    ⟨(some 2), none, .f (.mv (.c .nilslice))⟩,
    ⟨(some 3), none, .f (.mv (.c (.int .i64 1)))⟩])
  .ret)
  .skip))
 (.seq (.treg [
   ⟨(some 9), none, .f (.fadr 0 (.t 1))⟩,
   ⟨(some 10), none, .f (.ld (.t 9))⟩,
   ⟨(some 11), none, .x (.call 79 [(.t 10), (.c (.int .i64 2))])⟩,
   ⟨(some 12), none, .f (.fadr 1 (.t 1))⟩,
   ⟨(some 13), none, .f (.ld (.t 12))⟩,
   ⟨(some 14), none, .f (.cvI .u8 (.t 13))⟩,
   ⟨(some 15), none, .x (.bslice 5 1 [(.int .u8 0)] 2 [(0, (.c (.int .u8 1))), (1, (.t 14))])⟩,
   ⟨(some 16), none, .x (.call 78 [(.t 11), (.t 15)])⟩,
   ⟨(some 4), none, .f (.mv (.t 16))⟩]
   [[], [0], [1, 0], [], [3], [4, 3], [5, 4, 3], [2, 1, 0, 6, 5, 4, 3], [7, 2, 1, 0, 6, 5, 4, 3]] (.fl 0 (.fl 1 (.fl 3 (.fl 4 (.fl 5 (.br 2 (.br 6 (.br 7 (.fl 8 .fin) .stop) .stop) (.br 6 (.br 2 (.br 7 (.fl 8 .fin) .stop) .stop) .stop))))))))
 (.seq (.treg [
   ⟨(some 17), none, .f (.mv (.t 4))⟩,
   ⟨(some 18), none, .f (.fadr 2 (.t 1))⟩,
   ⟨(some 19), none, .f (.ld (.t 18))⟩,
   ⟨(some 20), none, .x (.call 79 [(.t 19), (.c (.int .i64 4))])⟩,
   ⟨(some 21), none, .x (.call 78 [(.t 17), (.t 20)])⟩,
   ⟨(some 22), none, .f (.fadr 3 (.t 1))⟩,
   ⟨(some 23), none, .f (.ld (.t 22))⟩,
   ⟨(some 24), none, .f (.lenS (.t 23))⟩,
   ⟨(some 25), none, .f (.cvI .u8 (.t 24))⟩,
   ⟨(some 26), none, .x (.bslice 5 1 [(.int .u8 0)] 1 [(0, (.t 25))])⟩,
   ⟨(some 27), none, .x (.call 78 [(.t 21), (.t 26)])⟩,
   ⟨(some 4), none, .f (.mv (.t 27))⟩]
   [[], [], [1], [2, 1], [0, 3, 2, 1], [], [5], [6, 5], [7, 6, 5], [8, 7, 6, 5], [4, 0, 3, 2, 1, 9, 8, 7, 6, 5], [10, 4, 0, 3, 2, 1, 9, 8, 7, 6, 5]] (.fl 0 (.fl 1 (.fl 2 (.fl 5 (.fl 6 (.fl 7 (.fl 8 (.br 3 (.br 4 (.br 9 (.br 10 (.br 11 .fin .stop) .stop) .stop) (.br 9 (.br 4 (.br 10 (.br 11 .fin .stop) .stop) .stop) .stop)) (.br 9 (.br 3 (.br 4 (.br 10 (.br 11 .fin .stop) .stop) .stop) .stop) .stop))))))))))
 (.seq (.treg [
   ⟨(some 28), none, .f (.mv (.t 4))⟩,
   ⟨(some 29), none, .f (.fadr 3 (.t 1))⟩,
   ⟨(some 30), none, .f (.ld (.t 29))⟩,
   ⟨(some 31), none, .x (.s2b 5 (.t 30))⟩,
   ⟨(some 32), none, .x (.call 78 [(.t 28), (.t 31)])⟩,
   ⟨(some 33), none, .f (.fadr 4 (.t 1))⟩,
   ⟨(some 34), none, .f (.ld (.t 33))⟩,
   ⟨(some 35), none, .f (.len (.t 34))⟩,
   ⟨(some 36), none, .f (.cvI .u8 (.t 35))⟩,
   ⟨(some 37), none, .x (.bslice 5 1 [(.int .u8 0)] 1 [(0, (.t 36))])⟩,
   ⟨(some 38), none, .x (.call 78 [(.t 32), (.t 37)])⟩,
   ⟨(some 4), none, .f (.mv (.t 38))⟩]
   [[], [], [1], [2, 1], [0, 3, 2, 1], [], [5], [6, 5], [7, 6, 5], [8, 7, 6, 5], [4, 0, 3, 2, 1, 9, 8, 7, 6, 5], [10, 4, 0, 3, 2, 1, 9, 8, 7, 6, 5]] (.fl 0 (.fl 1 (.fl 2 (.fl 5 (.fl 6 (.fl 7 (.fl 8 (.br 3 (.br 4 (.br 9 (.br 10 (.br 11 .fin .stop) .stop) .stop) (.br 9 (.br 4 (.br 10 (.br 11 .fin .stop) .stop) .stop) .stop)) (.br 9 (.br 3 (.br 4 (.br 10 (.br 11 .fin .stop) .stop) .stop) .stop) .stop))))))))))
 (.seq (.seq (.reg [
   ⟨(some 5), none, .f (.mv (.c (.int .i64 0)))⟩])
 (.block 0 (.loop (.seq (.seq (.reg [
     ⟨(some 39), none, .f (.mv (.t 5))⟩,
     ⟨(some 40), none, .f (.fadr 4 (.t 1))⟩,
     ⟨(some 41), none, .f (.ld (.t 40))⟩,
     ⟨(some 42), none, .f (.len (.t 41))⟩,
     ⟨(some 43), none, .f (.bin .lss (.t 39) (.t 42))⟩])
   (.cond (.t 43)
    .skip
    (.exit 0)))
   (.seq (.block 1 (.reg [
      ⟨(some 46), none, .f (.mv (.t 4))⟩,
      ⟨(some 47), none, .f (.fadr 4 (.t 1))⟩,
      ⟨(some 48), none, .f (.ld (.t 47))⟩,
      ⟨(some 49), none, .f (.mv (.t 5))⟩,
      ⟨(some 50), none, .f (.iadr 1 (.t 48) (.t 49))⟩,
      ⟨(some 51), none, .f (.ld (.t 50))⟩,
      ⟨(some 52), none, .x (.call 79 [(.t 51), (.c (.int .i64 4))])⟩,
      ⟨(some 53), none, .x (.call 78 [(.t 46), (.t 52)])⟩,
      ⟨(some 4), none, .f (.mv (.t 53))⟩]))
   (.reg [
     ⟨(some 44), none, .f (.mv (.t 5))⟩,
     ⟨(some 45), none, .f (.bin .add (.t 44) (.c (.int .i64 1)))⟩,
     ⟨(some 5), none, .f (.mv (.t 45))⟩]))))))
 (.seq (.reg [
   ⟨(some 54), none, .f (.mv (.t 4))⟩,
   ⟨(some 2), none, .f (.mv (.t 54))⟩,
   ⟨(some 3), none, .f (.mv (.c (.int .i64 0)))⟩])
 .ret)))))))
theorem ok31 : fnComp Tryd.prog 31 = some (55, c31, [(.mv (.t 2)), (.mv (.t 3))]) := by kernel_rfl

/-- loop.example/g00003/impl.EncodeReply -/
def c32 : CC :=
 (.seq (.reg [
   ⟨(some 1), none, .x (.box 54 5 (.t 0))⟩,
   ⟨(some 2), none, .f (.mv (.c .nilslice))⟩,
   ⟨(some 3), none, .f (.mv (.c (.int .i64 0)))⟩])
 (.seq (.seq (.reg [
   ⟨(some 7), none, .f (.ldA 5 (.t 1))⟩,
   ⟨(some 8), none, .x (.call 87 [(.t 7)])⟩,
   ⟨(some 9), none, .f (.un .not (.t 8))⟩,
   ⟨(some 10), none, .f (.mv (.t 9))⟩,
   ⟨(some 11), (some (10, false)), .f (.fadr 3 (.t 1))⟩,
   ⟨(some 12), (some (10, false)), .f (.ld (.t 11))⟩,
   ⟨(some 13), (some (10, false)), .x (.call 80 [(.t 12)])⟩,
   ⟨(some 14), (some (10, false)), .f (.un .not (.t 13))⟩,
   ⟨(some 15), none, .f (.pick (.t 10) (.c (.bool true)) (.t 14))⟩])
 (.cond (.t 15)
  (.seq (.reg [
    ⟨(some 2), none, .f (.mv (.c .nilslice))⟩,
    ⟨(some 3), none, .f (.mv (.c (.int .i64 1)))⟩])
  .ret)
  .skip))
 (.seq (.treg [
   ⟨(some 16), none, .f (.fadr 0 (.t 1))⟩,
   ⟨(some 17), none, .f (.ld (.t 16))⟩,
   ⟨(some 18), none, .x (.call 81 [(.c .nilslice), (.c (.int .i64 2)), (.t 17)])⟩,
   ⟨(some 19), none, .f (.fadr 1 (.t 1))⟩,
   ⟨(some 20), none, .f (.ld (.t 19))⟩,
   ⟨(some 21), none, .f (.cvI .u8 (.t 20))⟩,
   ⟨(some 22), none, .x (.bslice 5 1 [(.int .u8 0)] 2 [(0, (.c (.int .u8 1))), (1, (.t 21))])⟩,
   ⟨(some 23), none, .x (.app 5 1 1 (.t 18) (.t 22))⟩,
   ⟨(some 24), none, .f (.fadr 2 (.t 1))⟩,
   ⟨(some 25), none, .f (.ld (.t 24))⟩,
   ⟨(some 26), none, .x (.call 81 [(.t 23), (.c (.int .i64 4)), (.t 25)])⟩,
   ⟨(some 4), none, .f (.mv (.t 26))⟩]
   [[], [0], [1, 0], [], [3], [4, 3], [5, 4, 3], [2, 1, 0, 6, 5, 4, 3], [], [8], [7, 2, 1, 0, 6, 5, 4, 3, 9, 8], [10, 7, 2, 1, 0, 6, 5, 4, 3, 9, 8]] (.fl 0 (.fl 1 (.fl 3 (.fl 4 (.fl 5 (.fl 8 (.fl 9 (.br 2 (.br 6 (.br 7 (.br 10 (.fl 11 .fin) .stop) .stop) .stop) (.br 6 (.br 2 (.br 7 (.br 10 (.fl 11 .fin) .stop) .stop) .stop) .stop))))))))))
 (.seq (.dreg [
   ⟨(some 27), none, .f (.mv (.t 4))⟩,
   ⟨(some 28), none, .f (.fadr 3 (.t 1))⟩,
   ⟨(some 29), none, .f (.ld (.t 28))⟩,
   ⟨(some 30), none, .f (.lenS (.t 29))⟩,
   ⟨(some 31), none, .f (.cvI .u8 (.t 30))⟩,
   ⟨(some 32), none, .x (.bslice 5 1 [(.int .u8 0)] 1 [(0, (.t 31))])⟩,
   ⟨(some 33), none, .x (.app 5 1 1 (.t 27) (.t 32))⟩,
   ⟨(some 34), none, .f (.fadr 3 (.t 1))⟩,
   ⟨(some 35), none, .f (.ld (.t 34))⟩,
   ⟨(some 36), none, .x (.appS 5 1 (.t 33) (.t 35))⟩,
   ⟨(some 4), none, .f (.mv (.t 36))⟩]
   [false, false, false, false, false, true, true, false, false, true, true] [[], [], [1], [2, 1], [3, 2, 1], [4, 3, 2, 1], [0, 5, 4, 3, 2, 1], [], [7], [6, 0, 5, 4, 3, 2, 1, 8, 7], [9, 6, 0, 5, 4, 3, 2, 1, 8, 7]] [0, 1, 2, 3, 4, 7, 8, 5, 6, 9, 10])
 (.seq (.reg [
   ⟨(some 37), none, .f (.mv (.t 4))⟩,
   ⟨(some 38), none, .f (.fadr 4 (.t 1))⟩,
   ⟨(some 39), none, .f (.ld (.t 38))⟩,
   ⟨(some 40), none, .f (.len (.t 39))⟩,
   ⟨(some 41), none, .f (.cvI .u8 (.t 40))⟩,
   ⟨(some 42), none, .x (.bslice 5 1 [(.int .u8 0)] 1 [(0, (.t 41))])⟩,
   ⟨(some 43), none, .x (.app 5 1 1 (.t 37) (.t 42))⟩,
   ⟨(some 4), none, .f (.mv (.t 43))⟩])
 (.seq (.seq (.reg [
   ⟨(some 44), none, .f (.fadr 4 (.t 1))⟩,
   ⟨(some 45), none, .f (.ld (.t 44))⟩,
   ⟨(some 46), none, .f (.len (.t 45))⟩,
   ⟨(some 47), none, .f (.mv (.c (.int .i64 0)))⟩])
 (.block 0 (.loop (.seq (.reg [
     ⟨(some 48), none, .f (.bin .lss (.t 47) (.t 46))⟩])
   (.seq (.cond (.t 48)
    .skip
    (.exit 0))
   (.seq (.block 1 (.seq (.reg [
      ⟨(some 49), none, .f (.iadr 1 (.t 45) (.t 47))⟩,
      ⟨(some 50), none, .f (.ld (.t 49))⟩,
      ⟨(some 6), none, .f (.mv (.t 50))⟩])
    (.reg [
      ⟨(some 51), none, .f (.mv (.t 4))⟩,
      ⟨(some 52), none, .f (.mv (.t 6))⟩,
      ⟨(some 53), none, .x (.call 81 [(.t 51), (.c (.int .i64 4)), (.t 52)])⟩,
      ⟨(some 4), none, .f (.mv (.t 53))⟩])))
   (.reg [
     ⟨(some 54), none, .f (.bin .add (.t 47) (.c (.int .i64 1)))⟩,
     ⟨(some 47), none, .f (.mv (.t 54))⟩])))))))
 (.seq (.reg [
   ⟨(some 55), none, .f (.mv (.t 4))⟩,
   ⟨(some 2), none, .f (.mv (.t 55))⟩,
   ⟨(some 3), none, .f (.mv (.c (.int .i64 0)))⟩])
 .ret)))))))
theorem ok32 : fnComp Tryd.prog 32 = some (56, c32, [(.mv (.t 2)), (.mv (.t 3))]) := by kernel_rfl

/-- loop.example/g00003/spec.l19ReplyOK -/
def c86 : CC :=
 (.seq (.reg [
   ⟨(some 1), none, .x (.box 54 5 (.t 0))⟩,
   ⟨(some 2), none, .f (.mv (.c (.bool false)))⟩])
 (.seq (.seq (.reg [
   ⟨(some 4), none, .f (.fadr 0 (.t 1))⟩,
   ⟨(some 5), none, .f (.ld (.t 4))⟩,
   ⟨(some 6), none, .x (.call 76 [(.t 5)])⟩,
   ⟨(some 7), none, .f (.un .not (.t 6))⟩,
   ⟨(some 8), none, .f (.mv (.t 7))⟩,
   ⟨(some 9), (some (8, false)), .f (.fadr 3 (.t 1))⟩,
   ⟨(some 10), (some (8, false)), .f (.ld (.t 9))⟩,
   ⟨(some 11), (some (8, false)), .x (.call 77 [(.t 10)])⟩,
   ⟨(some 12), (some (8, false)), .f (.un .not (.t 11))⟩,
   ⟨(some 13), none, .f (.pick (.t 8) (.c (.bool true)) (.t 12))⟩,
   ⟨(some 14), none, .f (.mv (.t 13))⟩,
   ⟨(some 15), (some (14, false)), .f (.fadr 1 (.t 1))⟩,
   ⟨(some 16), (some (14, false)), .f (.ld (.t 15))⟩,
   ⟨(some 17), (some (14, false)), .x (.call 128 [(.t 16), (.c (.int .i64 0)), (.c (.int .i64 255))])⟩,
   ⟨(some 18), (some (14, false)), .f (.un .not (.t 17))⟩,
   ⟨(some 19), none, .f (.pick (.t 14) (.c (.bool true)) (.t 18))⟩,
   ⟨(some 20), none, .f (.mv (.t 19))⟩,
   ⟨(some 21), (some (20, false)), .f (.fadr 2 (.t 1))⟩,
   ⟨(some 22), (some (20, false)), .f (.ld (.t 21))⟩,
   ⟨(some 23), (some (20, false)), .x (.call 128 [(.t 22), (.c (.int .i64 0)), (.c (.int .i64 86400))])⟩,
   ⟨(some 24), (some (20, false)), .f (.un .not (.t 23))⟩,
   ⟨(some 25), none, .f (.pick (.t 20) (.c (.bool true)) (.t 24))⟩,
   ⟨(some 26), none, .f (.mv (.t 25))⟩,
   ⟨(some 27), (some (26, false)), .f (.fadr 4 (.t 1))⟩,
   ⟨(some 28), (some (26, false)), .f (.ld (.t 27))⟩,
   ⟨(some 29), (some (26, false)), .f (.len (.t 28))⟩,
   ⟨(some 30), (some (26, false)), .f (.bin .gtr (.t 29) (.c (.int .i64 8)))⟩,
   ⟨(some 31), none, .f (.pick (.t 26) (.c (.bool true)) (.t 30))⟩])
 (.cond (.t 31)
  (.seq (.reg [
    ⟨(some 2), none, .f (.mv (.c (.bool false)))⟩])
  .ret)
  .skip))
 (.seq (.seq (.reg [
   ⟨(some 3), none, .f (.mv (.c (.int .i64 0)))⟩])
 (.block 0 (.loop (.seq (.seq (.reg [
     ⟨(some 32), none, .f (.mv (.t 3))⟩,
     ⟨(some 33), none, .f (.fadr 4 (.t 1))⟩,
     ⟨(some 34), none, .f (.ld (.t 33))⟩,
     ⟨(some 35), none, .f (.len (.t 34))⟩,
     ⟨(some 36), none, .f (.bin .lss (.t 32) (.t 35))⟩])
   (.cond (.t 36)
    .skip
    (.exit 0)))
   (.seq (.block 1 (.seq (.reg [
      ⟨(some 39), none, .f (.fadr 4 (.t 1))⟩,
      ⟨(some 40), none, .f (.ld (.t 39))⟩,
      ⟨(some 41), none, .f (.mv (.t 3))⟩,
      ⟨(some 42), none, .f (.iadr 1 (.t 40) (.t 41))⟩,
      ⟨(some 43), none, .f (.ld (.t 42))⟩,
      ⟨(some 44), none, .x (.call 132 [(.t 43)])⟩,
      ⟨(some 45), none, .f (.un .not (.t 44))⟩])
    (.cond (.t 45)
     (.seq (.reg [
       ⟨(some 2), none, .f (.mv (.c (.bool false)))⟩])
     .ret)
     .skip)))
   (.reg [
     ⟨(some 37), none, .f (.mv (.t 3))⟩,
     ⟨(some 38), none, .f (.bin .add (.t 37) (.c (.int .i64 1)))⟩,
     ⟨(some 3), none, .f (.mv (.t 38))⟩]))))))
 (.seq (.reg [
   ⟨(some 2), none, .f (.mv (.c (.bool true)))⟩])
 .ret))))
theorem ok86 : fnComp Tryd.prog 86 = some (46, c86, [(.mv (.t 2))]) := by kernel_rfl

/-- loop.example/g00003/impl.okReply -/
def c87 : CC :=
 (.seq (.reg [
   ⟨(some 1), none, .x (.box 54 5 (.t 0))⟩,
   ⟨(some 2), none, .f (.mv (.c (.bool false)))⟩])
 (.seq (.seq (.reg [
   ⟨(some 3), none, .f (.fadr 0 (.t 1))⟩,
   ⟨(some 4), none, .f (.ld (.t 3))⟩,
   ⟨(some 5), none, .f (.bin .lss (.t 4) (.c (.int .i64 0)))⟩,
   ⟨(some 6), none, .f (.mv (.t 5))⟩,
   ⟨(some 7), (some (6, false)), .f (.fadr 0 (.t 1))⟩,
   ⟨(some 8), (some (6, false)), .f (.ld (.t 7))⟩,
   ⟨(some 9), (some (6, false)), .f (.bin .gtr (.t 8) (.c (.int .i64 65535)))⟩,
   ⟨(some 10), none, .f (.pick (.t 6) (.c (.bool true)) (.t 9))⟩,
   ⟨(some 11), none, .f (.mv (.t 10))⟩,
   ⟨(some 12), (some (11, false)), .f (.fadr 1 (.t 1))⟩,
   ⟨(some 13), (some (11, false)), .f (.ld (.t 12))⟩,
   ⟨(some 14), (some (11, false)), .f (.bin .lss (.t 13) (.c (.int .i64 0)))⟩,
   ⟨(some 15), none, .f (.pick (.t 11) (.c (.bool true)) (.t 14))⟩,
   ⟨(some 16), none, .f (.mv (.t 15))⟩,
   ⟨(some 17), (some (16, false)), .f (.fadr 1 (.t 1))⟩,
   ⟨(some 18), (some (16, false)), .f (.ld (.t 17))⟩,
   ⟨(some 19), (some (16, false)), .f (.bin .gtr (.t 18) (.c (.int .i64 255)))⟩,
   ⟨(some 20), none, .f (.pick (.t 16) (.c (.bool true)) (.t 19))⟩,
   ⟨(some 21), none, .f (.mv (.t 20))⟩,
   ⟨(some 22), (some (21, false)), .f (.fadr 2 (.t 1))⟩,
   ⟨(some 23), (some (21, false)), .f (.ld (.t 22))⟩,
   ⟨(some 24), (some (21, false)), .f (.bin .lss (.t 23) (.c (.int .i64 0)))⟩,
   ⟨(some 25), none, .f (.pick (.t 21) (.c (.bool true)) (.t 24))⟩,
   ⟨(some 26), none, .f (.mv (.t 25))⟩,
   ⟨(some 27), (some (26, false)), .f (.fadr 2 (.t 1))⟩,
   ⟨(some 28), (some (26, false)), .f (.ld (.t 27))⟩,
   ⟨(some 29), (some (26, false)), .f (.bin .gtr (.t 28) (.c (.int .i64 86400)))⟩,
   ⟨(some 30), none, .f (.pick (.t 26) (.c (.bool true)) (.t 29))⟩,
   ⟨(some 31), none, .f (.mv (.t 30))⟩,
   ⟨(some 32), (some (31, false)), .f (.fadr 4 (.t 1))⟩,
   ⟨(some 33), (some (31, false)), .f (.ld (.t 32))⟩,
   ⟨(some 34), (some (31, false)), .f (.len (.t 33))⟩,
   ⟨(some 35), (some (31, false)), .f (.bin .gtr (.t 34) (.c (.int .i64 8)))⟩,
   ⟨(some 36), none, .f (.pick (.t 31) (.c (.bool true)) (.t 35))⟩])
 (.cond (.t 36)
  (.seq (.reg [
    ⟨(some 2), none, .f (.mv (.c (.bool false)))⟩])
  .ret)
  .skip))
 (.seq (.reg [
   ⟨(some 37), none, .f (.fadr 4 (.t 1))⟩,
   ⟨(some 38), none, .f (.ld (.t 37))⟩,
   ⟨(some 39), none, .x (.call 133 [(.t 38), (.fn 134)])⟩,
   ⟨(some 40), none, .f (.un .not (.t 39))⟩,
   ⟨(some 2), none, .f (.mv (.t 40))⟩])
 .ret)))
theorem ok87 : fnComp Tryd.prog 87 = some (41, c87, [(.mv (.t 2))]) := by kernel_rfl

/-- loop.example/g00003/spec.l02AddrOK -/
def c132 : CC :=
 (.seq (.reg [
   ⟨(some 2), none, .f (.mv (.c (.bool false)))⟩])
 (.seq (.reg [
   ⟨(some 3), none, .f (.mv (.t 0))⟩,
   ⟨(some 4), none, .x (.call 128 [(.t 3), (.c (.int .i64 0)), (.c (.int .i64 4294967295))])⟩,
   ⟨(some 2), none, .f (.mv (.t 4))⟩])
 .ret))
theorem ok132 : fnComp Tryd.prog 132 = some (5, c132, [(.mv (.t 2))]) := by kernel_rfl

/-- loop.example/g00003/impl.isAddr -/
def c92 : CC :=
 (.seq (.reg [
   ⟨(some 2), none, .f (.mv (.c (.bool false)))⟩])
 (.seq (.reg [
   ⟨(some 3), none, .f (.mv (.t 0))⟩,
   ⟨(some 4), none, .f (.bin .geq (.t 3) (.c (.int .i64 0)))⟩,
   ⟨(some 5), none, .f (.mv (.t 4))⟩,
   ⟨(some 6), (some (5, true)), .f (.mv (.t 0))⟩,
   ⟨(some 7), (some (5, true)), .f (.bin .leq (.t 6) (.c (.int .i64 4294967295)))⟩,
   ⟨(some 8), none, .f (.pick (.t 5) (.t 7) (.c (.bool false)))⟩,
   ⟨(some 2), none, .f (.mv (.t 8))⟩])
 .ret))
theorem ok92 : fnComp Tryd.prog 92 = some (9, c92, [(.mv (.t 2))]) := by kernel_rfl

/-- slices.ContainsFunc[[]int64,int64] -/
def c133 : CC :=
 (.seq (.reg [
   ⟨(some 4), none, .f (.mv (.c (.bool false)))⟩])
 (.seq (.reg [
   ⟨(some 5), none, .f (.mv (.t 0))⟩,
   ⟨(some 6), none, .f (.mv (.t 1))⟩,
   ⟨(some 7), none, .x (.call 161 [(.t 5), (.t 6)])⟩,
   ⟨(some 8), none, .f (.bin .geq (.t 7) (.c (.int .i64 0)))⟩,
   ⟨(some 4), none, .f (.mv (.t 8))⟩])
 .ret))
theorem ok133 : fnComp Tryd.prog 133 = some (9, c133, [(.mv (.t 4))]) := by kernel_rfl

/-- loop.example/g00003/impl.okReply$1 -/
def c134 : CC :=
 (.seq (.reg [
   ⟨(some 2), none, .f (.mv (.c (.bool false)))⟩])
 (.seq (.reg [
   ⟨(some 3), none, .f (.mv (.t 0))⟩,
   ⟨(some 4), none, .x (.call 92 [(.t 3)])⟩,
   ⟨(some 5), none, .f (.un .not (.t 4))⟩,
   ⟨(some 2), none, .f (.mv (.t 5))⟩])
 .ret))
theorem ok134 : fnComp Tryd.prog 134 = some (6, c134, [(.mv (.t 2))]) := by kernel_rfl

/-- slices.IndexFunc[[]int64,int64] -/
def c161 : CC :=
 (.seq (.reg [
   ⟨(some 4), none, .f (.mv (.c (.int .i64 0)))⟩])
 (.seq (.seq (.reg [
   ⟨(some 6), none, .f (.mv (.t 0))⟩,
   ⟨(some 7), none, .f (.len (.t 6))⟩,
   ⟨(some 8), none, .f (.mv (.c (.int .i64 0)))⟩])
 (.block 0 (.loop (.seq (.reg [
     ⟨(some 9), none, .f (.bin .lss (.t 8) (.t 7))⟩])
   (.seq (.cond (.t 9)
    .skip
    (.exit 0))
   (.seq (.block 1 (.seq (.reg [
      ⟨(some 10), none, .f (.mv (.t 8))⟩,
      ⟨(some 5), none, .f (.mv (.t 10))⟩])
    (.seq (.reg [
      ⟨(some 11), none, .f (.mv (.t 1))⟩,
      ⟨(some 12), none, .f (.mv (.t 0))⟩,
      ⟨(some 13), none, .f (.mv (.t 5))⟩,
      ⟨(some 14), none, .f (.iadr 1 (.t 12) (.t 13))⟩,
      ⟨(some 15), none, .f (.ld (.t 14))⟩,
      ⟨(some 16), none, .x (.callv (.t 11) [(.t 15)])⟩])
    (.cond (.t 16)
     (.seq (.reg [
       ⟨(some 17), none, .f (.mv (.t 5))⟩,
       ⟨(some 4), none, .f (.mv (.t 17))⟩])
     .ret)
     .skip))))
   (.reg [
     ⟨(some 18), none, .f (.bin .add (.t 8) (.c (.int .i64 1)))⟩,
     ⟨(some 8), none, .f (.mv (.t 18))⟩])))))))
 (.seq (.reg [
   ⟨(some 4), none, .f (.mv (.c (.int .i64 (-1))))⟩])
 .ret)))
theorem ok161 : fnComp Tryd.prog 161 = some (19, c161, [(.mv (.t 4))]) := by kernel_rfl

/-- loop.example/g00003/impl.DecodeReply -/
def c33 : CC :=
 (.seq (.reg [
   ⟨(some 2), none, .x (.zero 54 5 [(.int .i64 0), (.int .i64 0), (.int .i64 0), (.str []), .nilslice])⟩,
   ⟨(some 3), none, .f (.mv (.c (.int .i64 0)))⟩])
 (.seq (.reg [
   ⟨(some 9), none, .f (.mv (.t 0))⟩,
   ⟨(some 10), none, .f (.build [.nilslice, (.bool false)] [(0, 1, (.t 9))])⟩,
   ⟨(some 11), none, .x (.box 130 2 (.t 10))⟩,
   ⟨(some 4), none, .f (.mv (.t 11))⟩])
 (.seq (.reg [
   ⟨(some 12), none, .f (.mv (.t 4))⟩,
   ⟨(some 13), none, .x (.call 82 [(.t 12), (.c (.int .i64 2))])⟩,
   ⟨(some 14), none, .f (.build [(.int .i64 0), (.int .i64 0), (.int .i64 0), (.str []), .nilslice] [(0, 1, (.t 13))])⟩,
   ⟨(some 5), none, .x (.zero 54 5 [(.int .i64 0), (.int .i64 0), (.int .i64 0), (.str []), .nilslice])⟩,
   ⟨none, none, .x (.st 5 (.t 5) (.t 14))⟩])
 (.seq (.reg [
   ⟨(some 15), none, .f (.mv (.t 4))⟩,
   ⟨(some 16), none, .x (.call 82 [(.t 15), (.c (.int .i64 1))])⟩,
   ⟨(some 6), none, .f (.mv (.t 16))⟩])
 (.seq (.reg [
   ⟨(some 17), none, .f (.mv (.t 4))⟩,
   ⟨(some 18), none, .x (.call 82 [(.t 17), (.c (.int .i64 1))])⟩,
   ⟨(some 19), none, .f (.mv (.t 4))⟩,
   ⟨(some 20), none, .x (.call 82 [(.t 19), (.c (.int .i64 4))])⟩,
   ⟨(some 21), none, .f (.fadr 1 (.t 5))⟩,
   ⟨none, none, .x (.st 1 (.t 21) (.t 18))⟩,
   ⟨(some 22), none, .f (.fadr 2 (.t 5))⟩,
   ⟨none, none, .x (.st 1 (.t 22) (.t 20))⟩])
 (.seq (.reg [
   ⟨(some 23), none, .f (.mv (.t 4))⟩,
   ⟨(some 24), none, .f (.mv (.t 4))⟩,
   ⟨(some 25), none, .x (.call 82 [(.t 24), (.c (.int .i64 1))])⟩,
   ⟨(some 26), none, .x (.call 83 [(.t 23), (.t 25)])⟩,
   ⟨(some 27), none, .f (.b2s (.t 26))⟩,
   ⟨(some 28), none, .f (.fadr 3 (.t 5))⟩,
   ⟨none, none, .x (.st 1 (.t 28) (.t 27))⟩])
 (.seq (.seq (.reg [
   ⟨(some 29), none, .f (.mv (.t 4))⟩,
   ⟨(some 30), none, .x (.call 82 [(.t 29), (.c (.int .i64 1))])⟩,
   ⟨(some 7), none, .f (.mv (.t 30))⟩])
 (.block 0 (.loop (.seq (.seq (.reg [
     ⟨(some 31), none, .f (.mv (.t 7))⟩,
     ⟨(some 32), none, .f (.bin .gtr (.t 31) (.c (.int .i64 0)))⟩,
     ⟨(some 33), none, .f (.mv (.t 32))⟩,
     ⟨(some 34), (some (33, true)), .f (.mv (.t 4))⟩,
     ⟨(some 35), (some (33, true)), .f (.nck (.t 34))⟩,
     ⟨(some 36), (some (33, true)), .f (.fadr 1 (.t 35))⟩,
     ⟨(some 37), (some (33, true)), .f (.ld (.t 36))⟩,
     ⟨(some 38), (some (33, true)), .f (.un .not (.t 37))⟩,
     ⟨(some 39), none, .f (.pick (.t 33) (.t 38) (.c (.bool false)))⟩])
   (.cond (.t 39)
    .skip
    (.exit 0)))
   (.seq (.block 1 (.dreg [
      ⟨(some 42), none, .f (.fadr 4 (.t 5))⟩,
      ⟨(some 43), none, .f (.ld (.t 42))⟩,
      ⟨(some 44), none, .f (.mv (.t 4))⟩,
      ⟨(some 45), none, .x (.call 82 [(.t 44), (.c (.int .i64 4))])⟩,
      ⟨(some 46), none, .x (.bslice 2 1 [(.int .i64 0)] 1 [(0, (.t 45))])⟩,
      ⟨(some 47), none, .x (.app 2 1 8 (.t 43) (.t 46))⟩,
      ⟨(some 48), none, .f (.fadr 4 (.t 5))⟩,
      ⟨none, none, .x (.st 1 (.t 48) (.t 47))⟩]
      [false, false, false, true, true, true, false, true] [[], [0], [], [2], [3, 2], [1, 0, 4, 3, 2], [0, 1, 2, 3, 4, 5], [6, 0, 1, 2, 3, 4, 5]] [0, 1, 2, 3, 4, 5, 6, 7]))
   (.reg [
     ⟨(some 40), none, .f (.mv (.t 7))⟩,
     ⟨(some 41), none, .f (.bin .sub (.t 40) (.c (.int .i64 1)))⟩,
     ⟨(some 7), none, .f (.mv (.t 41))⟩]))))))
 (.seq (.reg [
   ⟨(some 49), none, .f (.mv (.t 4))⟩,
   ⟨(some 50), none, .f (.mv (.t 6))⟩,
   ⟨(some 51), none, .f (.fadr 3 (.t 5))⟩,
   ⟨(some 52), none, .f (.ld (.t 51))⟩,
   ⟨(some 53), none, .x (.call 84 [(.t 49), (.t 50), (.c (.int .i64 1)), (.t 52)])⟩,
   ⟨(some 8), none, .f (.mv (.t 53))⟩])
 (.seq (.seq (.reg [
   ⟨(some 54), none, .f (.mv (.t 8))⟩,
   ⟨(some 55), none, .f (.bin .eql (.t 54) (.c (.int .i64 0)))⟩,
   ⟨(some 56), none, .f (.mv (.t 55))⟩,
   ⟨(some 57), (some (56, true)), .f (.ldA 5 (.t 5))⟩,
   ⟨(some 58), (some (56, true)), .x (.call 87 [(.t 57)])⟩,
   ⟨(some 59), (some (56, true)), .f (.un .not (.t 58))⟩,
   ⟨(some 60), none, .f (.pick (.t 56) (.t 59) (.c (.bool false)))⟩])
 (.cond (.t 60)
  (.reg [
    ⟨(some 8), none, .f (.mv (.c (.int .i64 1)))⟩])
  .skip))
 (.seq (.seq (.reg [
   ⟨(some 61), none, .f (.mv (.t 8))⟩,
   ⟨(some 62), none, .f (.bin .neq (.t 61) (.c (.int .i64 0)))⟩])
 (.cond (.t 62)
  (.seq (.reg [
    ⟨(some 63), none, .f (.build [(.int .i64 0), (.int .i64 0), (.int .i64 0), (.str []), .nilslice] [])⟩,
    ⟨(some 64), none, .f (.mv (.t 8))⟩,
    ⟨none, none, .x (.st 5 (.t 2) (.t 63))⟩,
    ⟨(some 3), none, .f (.mv (.t 64))⟩])
  .ret)
  .skip))
 (.seq (.reg [
   ⟨(some 65), none, .f (.ldA 5 (.t 5))⟩,
   ⟨none, none, .x (.st 5 (.t 2) (.t 65))⟩,
   ⟨(some 3), none, .f (.mv (.c (.int .i64 0)))⟩])
 .ret)))))))))))
theorem ok33 : fnComp Tryd.prog 33 = some (66, c33, [(.ldA 5 (.t 2)), (.mv (.t 3))]) := by kernel_rfl

/-- loop.example/g00003/impl.AnswerName -/
def c37 : CC :=
 (.seq (.reg [
   ⟨(some 4), none, .f (.mv (.c .nilslice))⟩,
   ⟨(some 5), none, .f (.mv (.c (.int .i64 0)))⟩])
 (.seq (.reg [
   ⟨(some 12), none, .f (.mv (.t 1))⟩,
   ⟨(some 13), none, .x (.call 29 [(.t 12)])⟩,
   ⟨(some 11), none, .f (.mv (.t 13))⟩,
   ⟨(some 14), none, .f (.ext 0 (.t 11))⟩,
   ⟨(some 15), none, .f (.ext 1 (.t 11))⟩,
   ⟨(some 6), none, .x (.zero 46 2 [(.int .i64 0), (.str [])])⟩,
   ⟨none, none, .x (.st 2 (.t 6) (.t 14))⟩,
   ⟨(some 7), none, .f (.mv (.t 15))⟩])
 (.seq (.seq (.reg [
   ⟨(some 16), none, .f (.mv (.t 7))⟩,
   ⟨(some 17), none, .f (.bin .neq (.t 16) (.c (.int .i64 0)))⟩])
 (.cond (.t 17)
  (.seq (.reg [
    ⟨(some 18), none, .f (.mv (.t 7))⟩,
    ⟨(some 4), none, .f (.mv (.c .nilslice))⟩,
    ⟨(some 5), none, .f (.mv (.t 18))⟩])
  .ret)
  .skip))
 (.seq (.reg [
   ⟨(some 19), none, .f (.fadr 0 (.t 6))⟩,
   ⟨(some 20), none, .f (.ld (.t 19))⟩,
   ⟨(some 21), none, .f (.fadr 1 (.t 6))⟩,
   ⟨(some 22), none, .f (.ld (.t 21))⟩,
   ⟨(some 23), none, .f (.build [(.int .i64 0), (.int .i64 0), (.int .i64 0), (.str []), .nilslice] [(0, 1, (.t 20)), (3, 1, (.t 22)), (1, 1, (.c (.int .i64 20))), (2, 1, (.c (.int .i64 10)))])⟩,
   ⟨(some 8), none, .x (.zero 54 5 [(.int .i64 0), (.int .i64 0), (.int .i64 0), (.str []), .nilslice])⟩,
   ⟨none, none, .x (.st 5 (.t 8) (.t 23))⟩])
 (.seq (.seq (.reg [
   ⟨(some 24), none, .f (.mv (.t 0))⟩,
   ⟨(some 25), none, .f (.len (.t 24))⟩,
   ⟨(some 26), none, .f (.mv (.c (.int .i64 0)))⟩])
 (.block 0 (.loop (.seq (.reg [
     ⟨(some 27), none, .f (.bin .lss (.t 26) (.t 25))⟩])
   (.seq (.cond (.t 27)
    .skip
    (.exit 0))
   (.seq (.block 1 (.seq (.reg [
      ⟨(some 28), none, .f (.iadr 3 (.t 24) (.t 26))⟩,
      ⟨(some 29), none, .f (.ldA 3 (.t 28))⟩,
      ⟨(some 10), none, .x (.zero 65 3 [(.str []), (.int .i64 0), (.int .i64 0)])⟩,
      ⟨none, none, .x (.st 3 (.t 10) (.t 29))⟩])
    (.seq (.seq (.reg [
      ⟨(some 30), none, .f (.fadr 0 (.t 10))⟩,
      ⟨(some 31), none, .f (.ld (.t 30))⟩,
      ⟨(some 32), none, .f (.fadr 1 (.t 6))⟩,
      ⟨(some 33), none, .f (.ld (.t 32))⟩,
      ⟨(some 34), none, .f (.bin .neq (.t 31) (.t 33))⟩,
      ⟨(some 35), none, .f (.mv (.t 34))⟩,
      ⟨(some 36), (some (35, false)), .f (.fadr 1 (.t 10))⟩,
      ⟨(some 37), (some (35, false)), .f (.ld (.t 36))⟩,
      ⟨(some 38), (some (35, false)), .x (.call 92 [(.t 37)])⟩,
      ⟨(some 39), (some (35, false)), .f (.un .not (.t 38))⟩,
      ⟨(some 40), none, .f (.pick (.t 35) (.c (.bool true)) (.t 39))⟩,
      ⟨(some 41), none, .f (.mv (.t 40))⟩,
      ⟨(some 42), (some (41, false)), .f (.fadr 2 (.t 10))⟩,
      ⟨(some 43), (some (41, false)), .f (.ld (.t 42))⟩,
      ⟨(some 44), (some (41, false)), .f (.bin .lss (.t 43) (.c (.int .i64 0)))⟩,
      ⟨(some 45), none, .f (.pick (.t 41) (.c (.bool true)) (.t 44))⟩,
      ⟨(some 46), none, .f (.mv (.t 45))⟩,
      ⟨(some 47), (some (46, false)), .f (.fadr 2 (.t 10))⟩,
      ⟨(some 48), (some (46, false)), .f (.ld (.t 47))⟩,
      ⟨(some 49), (some (46, false)), .f (.bin .gtr (.t 48) (.c (.int .i64 86400)))⟩,
      ⟨(some 50), none, .f (.pick (.t 46) (.c (.bool true)) (.t 49))⟩,
      ⟨(some 51), none, .f (.mv (.t 50))⟩,
      ⟨(some 52), (some (51, false)), .f (.fadr 4 (.t 8))⟩,
      ⟨(some 53), (some (51, false)), .f (.ld (.t 52))⟩,
      ⟨(some 54), (some (51, false)), .f (.len (.t 53))⟩,
      ⟨(some 55), (some (51, false)), .f (.bin .geq (.t 54) (.c (.int .i64 8)))⟩,
      ⟨(some 56), none, .f (.pick (.t 51) (.c (.bool true)) (.t 55))⟩])
    (.cond (.t 56)
     (.exit 1)
     .skip))
    (.seq (.seq (.reg [
      ⟨(some 57), none, .f (.fadr 1 (.t 8))⟩,
      ⟨(some 58), none, .f (.ld (.t 57))⟩,
      ⟨(some 59), none, .f (.bin .eql (.t 58) (.c (.int .i64 20)))⟩,
      ⟨(some 60), none, .f (.mv (.t 59))⟩,
      ⟨(some 61), (some (60, false)), .f (.fadr 2 (.t 10))⟩,
      ⟨(some 62), (some (60, false)), .f (.ld (.t 61))⟩,
      ⟨(some 63), (some (60, false)), .f (.fadr 2 (.t 8))⟩,
      ⟨(some 64), (some (60, false)), .f (.ld (.t 63))⟩,
      ⟨(some 65), (some (60, false)), .f (.bin .lss (.t 62) (.t 64))⟩,
      ⟨(some 66), none, .f (.pick (.t 60) (.c (.bool true)) (.t 65))⟩])
    (.cond (.t 66)
     (.reg [
       ⟨(some 67), none, .f (.fadr 2 (.t 10))⟩,
       ⟨(some 68), none, .f (.ld (.t 67))⟩,
       ⟨(some 69), none, .f (.fadr 2 (.t 8))⟩,
       ⟨none, none, .x (.st 1 (.t 69) (.t 68))⟩])
     .skip))
    (.seq (.reg [
      ⟨(some 70), none, .f (.fadr 1 (.t 8))⟩,
      ⟨none, none, .x (.st 1 (.t 70) (.c (.int .i64 0)))⟩])
    (.reg [
      ⟨(some 71), none, .f (.fadr 4 (.t 8))⟩,
      ⟨(some 72), none, .f (.ld (.t 71))⟩,
      ⟨(some 73), none, .f (.fadr 1 (.t 10))⟩,
      ⟨(some 74), none, .f (.ld (.t 73))⟩,
      ⟨(some 75), none, .x (.bslice 2 1 [(.int .i64 0)] 1 [(0, (.t 74))])⟩,
      ⟨(some 76), none, .x (.app 2 1 8 (.t 72) (.t 75))⟩,
      ⟨(some 77), none, .f (.fadr 4 (.t 8))⟩,
      ⟨none, none, .x (.st 1 (.t 77) (.t 76))⟩]))))))
   (.reg [
     ⟨(some 78), none, .f (.bin .add (.t 26) (.c (.int .i64 1)))⟩,
     ⟨(some 26), none, .f (.mv (.t 78))⟩])))))))
 (.seq (.reg [
   ⟨(some 79), none, .f (.ldA 5 (.t 8))⟩,
   ⟨(some 80), none, .x (.call 32 [(.t 79)])⟩,
   ⟨(some 81), none, .f (.ext 0 (.t 80))⟩,
   ⟨(some 82), none, .f (.ext 1 (.t 80))⟩,
   ⟨(some 4), none, .f (.mv (.t 81))⟩,
   ⟨(some 5), none, .f (.mv (.t 82))⟩])
 .ret))))))
theorem ok37 : fnComp Tryd.prog 37 = some (83, c37, [(.mv (.t 4)), (.mv (.t 5))]) := by kernel_rfl

end Go.Proofs.YtdpaehdolhdjdaaDoor


namespace Go.Proofs.YtdpaehdolhdjdaaDoor
open Go Go.IW

def sRow (s : List UInt8) : List IV := [.str s]

set_option maxRecDepth 20000 in
theorem idxB_c (h : IH) (s : List UInt8) (c : UInt8) : ICalls Tryd.prog 178 [.str s, .int .u8 c.toNat] h fun r h' => r = .int .i64 (Lib.indexByte s c) ∧ h' = h := by
  have := idxByte_calls (P := Tryd.prog) (f := 178) Tryd.func178 (by kernel_rfl) (by kernel_rfl) (by kernel_rfl) (by kernel_rfl) h s c.toNat
  simpa using this
set_option maxRecDepth 20000 in
theorem cntB_c (h : IH) (s : List UInt8) (c : UInt8) : ICalls Tryd.prog 176 [.str s, .int .u8 c.toNat] h fun r h' => r = .int .i64 (s.count c : Nat) ∧ h' = h := by
  have := cntByte_calls (P := Tryd.prog) (f := 176) Tryd.func176 (by kernel_rfl) (by kernel_rfl) (by kernel_rfl) (by kernel_rfl) h s c.toNat
  simpa [Lib.countByte] using this

theorem idxS_at {s : List UInt8} {k : Nat} {q : IntKind} {b : UInt8} (hb : s[k]? = some b) : idxSF (.str s) (.int q (k : Int)) = some (.int .u8 b.toNat) :=
  idxSF_of (by omega) (by simpa using hb)

set_option maxRecDepth 20000 in
theorem sIndexByte_c (h : IH) (s : List UInt8) (c : UInt8) : ICalls Tryd.prog 160 [.str s, .int .u8 c.toNat] h fun r h' => r = .int .i64 (Lib.indexByte s c) ∧ h' = h := by
  refine icalls (.of ok160) (Nat.le_of_ble_eq_true rfl) ?_
  unfold c160
  simp only [go_sem, Hold.p, HoldK.k, HoldL.K, HoldL.body, Nat.reduceBEq, Nat.reduceAdd, List.getElem?_cons_zero, List.getElem?_cons_succ, Option.bind_some, List.map_cons, List.map_nil, Nat.zero_add, if_true, List.getD_cons_zero, List.getD_cons_succ, List.contains_cons, List.contains_nil, Nat.reduceBEq, Bool.or_true, Bool.true_or, Bool.or_false, Bool.false_or, Bool.not_true, Bool.not_false, true_and, and_true]
  refine callA_of (idxB_c h s c) ?_
  rintro r h' ⟨rfl, rfl⟩
  simp only [go_sem, Hold.p, HoldK.k, HoldL.K, HoldL.body, Nat.reduceBEq, Nat.reduceAdd, List.getElem?_cons_zero, List.getElem?_cons_succ, Option.bind_some, List.map_cons, List.map_nil, Nat.zero_add, if_true, List.getD_cons_zero, List.getD_cons_succ, List.contains_cons, List.contains_nil, Nat.reduceBEq, Bool.or_true, Bool.true_or, Bool.or_false, Bool.false_or, Bool.not_true, Bool.not_false, true_and, and_true]

set_option maxRecDepth 20000 in
theorem sIndex_c (h : IH) (s : List UInt8) (c : UInt8) : ICalls Tryd.prog 159 [.str s, .str [c]] h fun r h' => r = .int .i64 (Lib.indexByte s c) ∧ h' = h := by
  refine icalls (.of ok159) (Nat.le_of_ble_eq_true rfl) ?_
  unfold c159
  have d0 : decide ((([c] : List UInt8).length : Int) = 0) = false := rfl
  have d1 : decide ((([c] : List UInt8).length : Int) = 1) = true := rfl
  have hi : idxSF (.str [c]) (.int .i64 0) = some (.int .u8 c.toNat) := rfl
  simp only [d0, d1, hi, go_sem, Hold.p, HoldK.k, HoldL.K, HoldL.body, Nat.reduceBEq, Nat.reduceAdd, List.getElem?_cons_zero, List.getElem?_cons_succ, Option.bind_some, List.map_cons, List.map_nil, Nat.zero_add, if_true, List.getD_cons_zero, List.getD_cons_succ, List.contains_cons, List.contains_nil, Nat.reduceBEq, Bool.or_true, Bool.true_or, Bool.or_false, Bool.false_or, Bool.not_true, Bool.not_false, true_and, and_true]
  by_cases hc : ([c] : List UInt8) = s
  · have hd : decide (([c] : List UInt8) = s) = true := by simpa using hc
    simp only [hd, go_sem, Hold.p, HoldK.k, HoldL.K, HoldL.body, Nat.reduceBEq, Nat.reduceAdd, List.getElem?_cons_zero, List.getElem?_cons_succ, Option.bind_some, List.map_cons, List.map_nil, Nat.zero_add, if_true, List.getD_cons_zero, List.getD_cons_succ, List.contains_cons, List.contains_nil, Nat.reduceBEq, Bool.or_true, Bool.true_or, Bool.or_false, Bool.false_or, Bool.not_true, Bool.not_false, true_and, and_true]
    subst hc
    simp [Lib.indexByte]
  · have hd : decide (([c] : List UInt8) = s) = false := by simpa using hc
    simp only [hd, d1, hi, go_sem, Hold.p, HoldK.k, HoldL.K, HoldL.body, Nat.reduceBEq, Nat.reduceAdd, List.getElem?_cons_zero, List.getElem?_cons_succ, Option.bind_some, List.map_cons, List.map_nil, Nat.zero_add, if_true, List.getD_cons_zero, List.getD_cons_succ, List.contains_cons, List.contains_nil, Nat.reduceBEq, Bool.or_true, Bool.true_or, Bool.or_false, Bool.false_or, Bool.not_true, Bool.not_false, true_and, and_true]
    refine callA_of (sIndexByte_c h s c) ?_
    rintro r h' ⟨rfl, rfl⟩
    simp only [go_sem, Hold.p, HoldK.k, HoldL.K, HoldL.body, Nat.reduceBEq, Nat.reduceAdd, List.getElem?_cons_zero, List.getElem?_cons_succ, Option.bind_some, List.map_cons, List.map_nil, Nat.zero_add, if_true, List.getD_cons_zero, List.getD_cons_succ, List.contains_cons, List.contains_nil, Nat.reduceBEq, Bool.or_true, Bool.true_or, Bool.or_false, Bool.false_or, Bool.not_true, Bool.not_false, true_and, and_true]

set_option maxRecDepth 20000 in
theorem index_c (h : IH) (s : List UInt8) (c : UInt8) : ICalls Tryd.prog 158 [.str s, .str [c]] h fun r h' => r = .int .i64 (Lib.indexByte s c) ∧ h' = h := by
  refine icalls (.of ok158) (Nat.le_of_ble_eq_true rfl) ?_
  unfold c158
  simp only [go_sem, Hold.p, HoldK.k, HoldL.K, HoldL.body, Nat.reduceBEq, Nat.reduceAdd, List.getElem?_cons_zero, List.getElem?_cons_succ, Option.bind_some, List.map_cons, List.map_nil, Nat.zero_add, if_true, List.getD_cons_zero, List.getD_cons_succ, List.contains_cons, List.contains_nil, Nat.reduceBEq, Bool.or_true, Bool.true_or, Bool.or_false, Bool.false_or, Bool.not_true, Bool.not_false, true_and, and_true]
  refine callA_of (sIndex_c h s c) ?_
  rintro r h' ⟨rfl, rfl⟩
  simp only [go_sem, Hold.p, HoldK.k, HoldL.K, HoldL.body, Nat.reduceBEq, Nat.reduceAdd, List.getElem?_cons_zero, List.getElem?_cons_succ, Option.bind_some, List.map_cons, List.map_nil, Nat.zero_add, if_true, List.getD_cons_zero, List.getD_cons_succ, List.contains_cons, List.contains_nil, Nat.reduceBEq, Bool.or_true, Bool.true_or, Bool.or_false, Bool.false_or, Bool.not_true, Bool.not_false, true_and, and_true]

set_option maxRecDepth 20000 in
theorem count_c (h : IH) (s : List UInt8) (c : UInt8) : ICalls Tryd.prog 157 [.str s, .str [c]] h fun r h' => r = .int .i64 (s.count c : Nat) ∧ h' = h := by
  refine icalls (.of ok157) (Nat.le_of_ble_eq_true rfl) ?_
  unfold c157
  have d0 : decide ((([c] : List UInt8).length : Int) = 0) = false := rfl
  have d1 : decide ((([c] : List UInt8).length : Int) = 1) = true := rfl
  have hi : idxSF (.str [c]) (.int .i64 0) = some (.int .u8 c.toNat) := rfl
  simp only [d0, d1, hi, go_sem, Hold.p, HoldK.k, HoldL.K, HoldL.body, Nat.reduceBEq, Nat.reduceAdd, List.getElem?_cons_zero, List.getElem?_cons_succ, Option.bind_some, List.map_cons, List.map_nil, Nat.zero_add, if_true, List.getD_cons_zero, List.getD_cons_succ, List.contains_cons, List.contains_nil, Nat.reduceBEq, Bool.or_true, Bool.true_or, Bool.or_false, Bool.false_or, Bool.not_true, Bool.not_false, true_and, and_true]
  refine callA_of (cntB_c h s c) ?_
  rintro r h' ⟨rfl, rfl⟩
  simp only [go_sem, Hold.p, HoldK.k, HoldL.K, HoldL.body, Nat.reduceBEq, Nat.reduceAdd, List.getElem?_cons_zero, List.getElem?_cons_succ, Option.bind_some, List.map_cons, List.map_nil, Nat.zero_add, if_true, List.getD_cons_zero, List.getD_cons_succ, List.contains_cons, List.contains_nil, Nat.reduceBEq, Bool.or_true, Bool.true_or, Bool.or_false, Bool.false_or, Bool.not_true, Bool.not_false, true_and, and_true]

theorem count_le_len (c : UInt8) (s : List UInt8) : s.count c ≤ s.length := List.count_le_length

set_option maxRecDepth 20000 in
theorem genSplit_c (h : IH) (s : List UInt8) (c : UInt8) (hm : s.length ≤ 1048576) : ICalls Tryd.prog 118 [.str s, .str [c], .int .i64 0, .int .i64 (-1)] h fun r h' => SlR h' 1 r ((cutAt c s).map sRow) ∧ Ext h h' := by
  refine icalls (.of ok118) (Nat.le_of_ble_eq_true rfl) ?_
  unfold c118
  have hcl := count_le_len c s
  have d0 : decide ((-1 : Int) = 0) = false := rfl
  have d1 : decide (([c] : List UInt8) = []) = false := by simp
  have d2 : decide ((-1 : Int) < 0) = true := rfl
  simp only [d0, d1, d2, go_sem, Hold.p, HoldK.k, HoldL.K, HoldL.body, Nat.reduceBEq, Nat.reduceAdd, List.getElem?_cons_zero, List.getElem?_cons_succ, Option.bind_some, List.map_cons, List.map_nil, Nat.zero_add, if_true, List.getD_cons_zero, List.getD_cons_succ, List.contains_cons, List.contains_nil, Nat.reduceBEq, Bool.or_true, Bool.true_or, Bool.or_false, Bool.false_or, Bool.not_true, Bool.not_false, true_and, and_true]
  refine callA_of (count_c h s c) ?_
  rintro r h' ⟨rfl, rfl⟩
  have w1 : wr .i64 ((s.count c : Int) + 1) = ((s.count c + 1 : Nat) : Int) := by rw [wr64 _ (by omega)]; rfl
  have w2 : wr .i64 ((s.length : Int) + 1) = ((s.length + 1 : Nat) : Int) := by rw [wr64 _ (by omega)]; rfl
  have hmin : min ((s.count c + 1 : Nat) : Int) ((s.length + 1 : Nat) : Int) = ((s.count c + 1 : Nat) : Int) := by omega
  have w3 : wr .i64 (((s.count c + 1 : Nat) : Int) - 1) = ((s.count c : Nat) : Int) := by rw [wr64 _ (by omega)]; omega
  simp only [w1, w2, hmin, go_sem, Hold.p, HoldK.k, HoldL.K, HoldL.body, Nat.reduceBEq, Nat.reduceAdd, List.getElem?_cons_zero, List.getElem?_cons_succ, Option.bind_some, List.map_cons, List.map_nil, Nat.zero_add, if_true, List.getD_cons_zero, List.getD_cons_succ, List.contains_cons, List.contains_nil, Nat.reduceBEq, Bool.or_true, Bool.true_or, Bool.or_false, Bool.false_or, Bool.not_true, Bool.not_false, true_and, and_true]
  refine mksA_of (by omega) (by omega) (by omega) ?_
  simp only [w3, go_sem, Hold.p, HoldK.k, HoldL.K, HoldL.body, Nat.reduceBEq, Nat.reduceAdd, List.getElem?_cons_zero, List.getElem?_cons_succ, Option.bind_some, List.map_cons, List.map_nil, Nat.zero_add, if_true, List.getD_cons_zero, List.getD_cons_succ, List.contains_cons, List.contains_nil, Nat.reduceBEq, Bool.or_true, Bool.true_or, Bool.or_false, Bool.false_or, Bool.not_true, Bool.not_false, true_and, and_true, rowA_whole, push_n, set_n, push_obj, set_obj, set_push, set_push_ne, set_set, Nat.add_assoc, Nat.left_eq_add, Nat.add_eq_left, Nat.add_left_cancel_iff, Nat.reduceEqDiff, stO_1s, stO_ws, boxA_s, one_bool, one_int, one_str, one_ptr, one_nilptr, one_slice, one_eslice, one_nilslice, one_func, one_iface, one_niliface, List.all_cons, List.all_nil, List.length_cons, List.length_nil, Nat.reduceLT, Nat.reduceEqDiff, Nat.reduceLeDiff, Bool.and_true, Nat.one_ne_zero, Nat.succ_ne_zero, reduceIte, if_false, List.getElem?_cons_zero, List.set_cons_zero, List.set_cons_succ]
  generalize hq_g0 : IH.push h' (IObj.rows (List.replicate (s.count c + 1) [IV.str []]) 9 1 false) = g0
  have e_g0 : Ext h' g0 := by rw [← hq_g0]; exact (Ext.refl _).push _
  have l_g0 : g0.n = h'.n + 1 := by rw [← hq_g0]; rfl
  have ba : At g0 h'.n (IObj.rows (List.replicate (s.count c + 1) [IV.str []]) 9 1 false) := by rw [← hq_g0]; exact At.new _ _
  clear hq_g0
  refine loop_at (fun n e g => ∃ (t : List UInt8) (done : List (List UInt8)), n = t.count c ∧ cutAt c s = done ++ cutAt c t ∧ done.length + t.count c = s.count c ∧ t.length ≤ s.length ∧ e 0 = .str t ∧ e 1 = .str [c] ∧ e 2 = .int .i64 0 ∧ e 3 = .int .i64 (s.count c : Nat) ∧
    e 9 = .slice h'.n 0 (s.count c + 1) ∧ e 10 = .int .i64 (done.length : Nat) ∧ Ext h' g ∧ At g h'.n (.rows (done.map sRow ++ List.replicate (s.count c + 1 - done.length) [IV.str []]) 9 1 false)) (s.count c) ?_ ?_
  · refine ⟨s, [], rfl, rfl, by simp, Nat.le_refl _, ?_⟩
    simp only [go_sem, Hold.p, HoldK.k, HoldL.K, HoldL.body, Nat.reduceBEq, Nat.reduceAdd, List.getElem?_cons_zero, List.getElem?_cons_succ, Option.bind_some, List.map_cons, List.map_nil, Nat.zero_add, if_true, List.getD_cons_zero, List.getD_cons_succ, List.contains_cons, List.contains_nil, Nat.reduceBEq, Bool.or_true, Bool.true_or, Bool.or_false, Bool.false_or, Bool.not_true, Bool.not_false, true_and, and_true, rowA_whole, push_n, set_n, push_obj, set_obj, set_push, set_push_ne, set_set, Nat.add_assoc, Nat.left_eq_add, Nat.add_eq_left, Nat.add_left_cancel_iff, Nat.reduceEqDiff, stO_1s, stO_ws, boxA_s, one_bool, one_int, one_str, one_ptr, one_nilptr, one_slice, one_eslice, one_nilslice, one_func, one_iface, one_niliface, List.all_cons, List.all_nil, List.length_cons, List.length_nil, Nat.reduceLT, Nat.reduceEqDiff, Nat.reduceLeDiff, Bool.and_true, Nat.one_ne_zero, Nat.succ_ne_zero, reduceIte, if_false, List.getElem?_cons_zero, List.set_cons_zero, List.set_cons_succ]
    exact ⟨rfl, e_g0, ba⟩
  · rintro n e g ⟨t, done, rfl, hcut, hcnt, htl, i0, i1, i2, i3, i9, i10, E, ba⟩
    have bae := ba.eq
    have bal := ba.lt
    simp only [i0, i1, i2, i3, i9, i10, go_sem, Hold.p, HoldK.k, HoldL.K, HoldL.body, Nat.reduceBEq, Nat.reduceAdd, List.getElem?_cons_zero, List.getElem?_cons_succ, Option.bind_some, List.map_cons, List.map_nil, Nat.zero_add, if_true, List.getD_cons_zero, List.getD_cons_succ, List.contains_cons, List.contains_nil, Nat.reduceBEq, Bool.or_true, Bool.true_or, Bool.or_false, Bool.false_or, Bool.not_true, Bool.not_false, true_and, and_true, rowA_whole, push_n, set_n, push_obj, set_obj, set_push, set_push_ne, set_set, Nat.add_assoc, Nat.left_eq_add, Nat.add_eq_left, Nat.add_left_cancel_iff, Nat.reduceEqDiff, stO_1s, stO_ws, boxA_s, one_bool, one_int, one_str, one_ptr, one_nilptr, one_slice, one_eslice, one_nilslice, one_func, one_iface, one_niliface, List.all_cons, List.all_nil, List.length_cons, List.length_nil, Nat.reduceLT, Nat.reduceEqDiff, Nat.reduceLeDiff, Bool.and_true, Nat.one_ne_zero, Nat.succ_ne_zero, reduceIte, if_false, List.getElem?_cons_zero, List.set_cons_zero, List.set_cons_succ]
    have fin : t.count c = 0 → Lib.indexByte t c = -1 → True := fun _ _ => trivial
    refine test_dec (fun hlt => ?_) (fun hlt => ?_)
    · have hpos : 0 < t.count c := by omega
      simp only [i0, i1, i2, i3, i9, i10, go_sem, Hold.p, HoldK.k, HoldL.K, HoldL.body, Nat.reduceBEq, Nat.reduceAdd, List.getElem?_cons_zero, List.getElem?_cons_succ, Option.bind_some, List.map_cons, List.map_nil, Nat.zero_add, if_true, List.getD_cons_zero, List.getD_cons_succ, List.contains_cons, List.contains_nil, Nat.reduceBEq, Bool.or_true, Bool.true_or, Bool.or_false, Bool.false_or, Bool.not_true, Bool.not_false, true_and, and_true, rowA_whole, push_n, set_n, push_obj, set_obj, set_push, set_push_ne, set_set, Nat.add_assoc, Nat.left_eq_add, Nat.add_eq_left, Nat.add_left_cancel_iff, Nat.reduceEqDiff, stO_1s, stO_ws, boxA_s, one_bool, one_int, one_str, one_ptr, one_nilptr, one_slice, one_eslice, one_nilslice, one_func, one_iface, one_niliface, List.all_cons, List.all_nil, List.length_cons, List.length_nil, Nat.reduceLT, Nat.reduceEqDiff, Nat.reduceLeDiff, Bool.and_true, Nat.one_ne_zero, Nat.succ_ne_zero, reduceIte, if_false, List.getElem?_cons_zero, List.set_cons_zero, List.set_cons_succ]
      refine callA_of (index_c g t c) ?_
      rintro r g' ⟨rfl, rfl⟩
      have hne : Lib.indexByte t c ≠ -1 := by
        intro h0
        have := cutAt_len c t
        rw [cutAt_none c h0] at this
        simp at this
        omega
      have hge := Lib.indexByte_ge t c
      obtain ⟨m, hidx⟩ : ∃ m : Nat, Lib.indexByte t c = m := ⟨(Lib.indexByte t c).toNat, by omega⟩
      obtain ⟨hml, hc2, hc3⟩ := cutAt_some c hidx
      have dm : decide ((m : Int) < 0) = false := by simp
      have w4 : wr .i64 ((m : Int) + 0) = (m : Int) := by rw [wr64 _ (by omega)]; omega
      have w5 : wr .i64 ((m : Int) + 1) = ((m + 1 : Nat) : Int) := by rw [wr64 _ (by omega)]; rfl
      have hs1 : slcSF (.str t) none (some (.int .i64 (m : Int))) = some (.str (t.take m)) := by
        rw [slcSF_of (boundF_of (by omega) (by omega)) rfl]; simp
      have hs2 : slcSF (.str t) (some (.int .i64 ((m + 1 : Nat) : Int))) none = some (.str (t.drop (m + 1))) := by
        rw [slcSF_of rfl (boundF_of (by omega) (by omega))]; simp
      have w6 : wr .i64 ((m : Int) + ((1 : Nat) : Int)) = ((m + 1 : Nat) : Int) := w5
      simp only [i0, i1, i2, i3, i9, i10, hidx, dm, w4, w5, hs1, hs2, w6, iadrF_sl, bae, iadrO_nat (show done.length < s.count c + 1 by omega), Option.map_some, Option.map_none, go_sem, Hold.p, HoldK.k, HoldL.K, HoldL.body, Nat.reduceBEq, Nat.reduceAdd, List.getElem?_cons_zero, List.getElem?_cons_succ, Option.bind_some, List.map_cons, List.map_nil, Nat.zero_add, if_true, List.getD_cons_zero, List.getD_cons_succ, List.contains_cons, List.contains_nil, Nat.reduceBEq, Bool.or_true, Bool.true_or, Bool.or_false, Bool.false_or, Bool.not_true, Bool.not_false, true_and, and_true, rowA_whole, push_n, set_n, push_obj, set_obj, set_push, set_push_ne, set_set, Nat.add_assoc, Nat.left_eq_add, Nat.add_eq_left, Nat.add_left_cancel_iff, Nat.reduceEqDiff, stO_1s, stO_ws, boxA_s, one_bool, one_int, one_str, one_ptr, one_nilptr, one_slice, one_eslice, one_nilslice, one_func, one_iface, one_niliface, List.all_cons, List.all_nil, List.length_cons, List.length_nil, Nat.reduceLT, Nat.reduceEqDiff, Nat.reduceLeDiff, Bool.and_true, Nat.one_ne_zero, Nat.succ_ne_zero, reduceIte, if_false, List.getElem?_cons_zero, List.set_cons_zero, List.set_cons_succ]
      refine stO_of (k := 0) (cs := [IV.str (t.take m)]) (row := [IV.str []]) ?_ rfl (by simp) (by simp [IV.one]) ?_
      · rw [List.getElem?_append_right (by simp), List.length_map, Nat.sub_self, List.getElem?_replicate, if_pos (by omega)]
      have hw : wrt [IV.str []] 0 [IV.str (t.take m)] = [IV.str (t.take m)] := rfl
      rw [hw]
      simp only [hidx, dm, w4, w5, hs1, hs2, w6, i0, i1, i2, i3, i9, i10, Option.map_some, Option.map_none, go_sem, Hold.p, HoldK.k, HoldL.K, HoldL.body, Nat.reduceBEq, Nat.reduceAdd, List.getElem?_cons_zero, List.getElem?_cons_succ, Option.bind_some, List.map_cons, List.map_nil, Nat.zero_add, if_true, List.getD_cons_zero, List.getD_cons_succ, List.contains_cons, List.contains_nil, Nat.reduceBEq, Bool.or_true, Bool.true_or, Bool.or_false, Bool.false_or, Bool.not_true, Bool.not_false, true_and, and_true, rowA_whole, push_n, set_n, push_obj, set_obj, set_push, set_push_ne, set_set, Nat.add_assoc, Nat.left_eq_add, Nat.add_eq_left, Nat.add_left_cancel_iff, Nat.reduceEqDiff, stO_1s, stO_ws, boxA_s, one_bool, one_int, one_str, one_ptr, one_nilptr, one_slice, one_eslice, one_nilslice, one_func, one_iface, one_niliface, List.all_cons, List.all_nil, List.length_cons, List.length_nil, Nat.reduceLT, Nat.reduceEqDiff, Nat.reduceLeDiff, Bool.and_true, Nat.one_ne_zero, Nat.succ_ne_zero, reduceIte, if_false, List.getElem?_cons_zero, List.set_cons_zero, List.set_cons_succ]
      refine ⟨_, ?_, t.drop (m + 1), done ++ [t.take m], rfl, ?_, ?_, ?_, rfl, ?_, ?_⟩
      · omega
      · rw [hcut, hc2]; simp
      · simp; omega
      · simp; omega
      · congr 2
        rw [wr64 _ (by omega)]; simp
      · exact ⟨E.set _ (by omega) _, by
          have e1 : (List.map sRow done ++ List.replicate (List.count c s + 1 - done.length) [IV.str []]).set done.length [IV.str (t.take m)] = List.map sRow (done ++ [t.take m]) ++ List.replicate (List.count c s + 1 - (done ++ [t.take m]).length) [IV.str []] := by
            obtain ⟨k, hk⟩ : ∃ k, List.count c s + 1 - done.length = k + 1 := ⟨List.count c s - done.length, by omega⟩
            have hk2 : List.count c s + 1 - (done ++ [t.take m]).length = k := by simp; omega
            rw [hk, hk2, List.set_append_right _ _ (by simp)]
            simp [List.replicate_succ, sRow]
          rw [← e1]
          exact ba.here⟩
    · have h0 : t.count c = 0 := by omega
      have hidx : Lib.indexByte t c = -1 := by
        have hge := Lib.indexByte_ge t c
        apply Classical.byContradiction
        intro hne
        obtain ⟨m, hm2⟩ : ∃ m : Nat, Lib.indexByte t c = m := ⟨(Lib.indexByte t c).toNat, by omega⟩
        have := (cutAt_some c hm2).2.2
        omega
      have hct := cutAt_none c hidx
      have hdl : done.length = s.count c := by omega
      have w4 : wr .i64 (((s.count c : Nat) : Int) + 1) = ((s.count c + 1 : Nat) : Int) := by rw [wr64 _ (by omega)]; rfl
      rw [hdl] at i10 bae
      have hsub : s.count c + 1 - s.count c = 1 := by omega
      rw [hsub] at bae
      simp only [i0, i1, i2, i3, i9, i10, iadrF_sl, bae, iadrO_nat (show s.count c < s.count c + 1 by omega), go_sem, Hold.p, HoldK.k, HoldL.K, HoldL.body, Nat.reduceBEq, Nat.reduceAdd, List.getElem?_cons_zero, List.getElem?_cons_succ, Option.bind_some, List.map_cons, List.map_nil, Nat.zero_add, if_true, List.getD_cons_zero, List.getD_cons_succ, List.contains_cons, List.contains_nil, Nat.reduceBEq, Bool.or_true, Bool.true_or, Bool.or_false, Bool.false_or, Bool.not_true, Bool.not_false, true_and, and_true, rowA_whole, push_n, set_n, push_obj, set_obj, set_push, set_push_ne, set_set, Nat.add_assoc, Nat.left_eq_add, Nat.add_eq_left, Nat.add_left_cancel_iff, Nat.reduceEqDiff, stO_1s, stO_ws, boxA_s, one_bool, one_int, one_str, one_ptr, one_nilptr, one_slice, one_eslice, one_nilslice, one_func, one_iface, one_niliface, List.all_cons, List.all_nil, List.length_cons, List.length_nil, Nat.reduceLT, Nat.reduceEqDiff, Nat.reduceLeDiff, Bool.and_true, Nat.one_ne_zero, Nat.succ_ne_zero, reduceIte, if_false, List.getElem?_cons_zero, List.set_cons_zero, List.set_cons_succ]
      refine stO_of (k := 0) (cs := [IV.str t]) (row := [IV.str []]) ?_ rfl (by simp) (by simp [IV.one]) ?_
      · rw [List.getElem?_append_right (by simp; omega)]; simp [hdl]
      have hw : wrt [IV.str []] 0 [IV.str t] = [IV.str t] := rfl
      have e1 : (List.map sRow done ++ List.replicate 1 [IV.str []]).set (s.count c) [IV.str t] = (cutAt c s).map sRow := by
        rw [hcut, hct, List.set_append_right _ _ (by simp; omega)]
        simp [hdl, sRow]
      have hlen : ((cutAt c s).map sRow).length = s.count c + 1 := by rw [List.length_map, cutAt_len]
      rw [hw, e1]
      have hsl : ∀ hh : IH, hh.obj h'.n = .rows ((cutAt c s).map sRow) 9 1 false → slcF hh 1 (.slice h'.n 0 (s.count c + 1)) none (some (.int .i64 ((s.count c + 1 : Nat) : Int))) = some (.slice h'.n 0 (s.count c + 1)) := by
        intro hh ho
        rw [slcF_of (n := s.count c + 1) (a := 0) (b := s.count c + 1) hh rfl (by rw [boundF_of (by omega) (by omega)]; simp) rfl, islc_some hh (by omega) (Nat.le_refl _) (by rw [size_eq, ho]; rfl)]
        simp
      have hsl1 := hsl (g.set h'.n (.rows ((cutAt c s).map sRow) 9 1 false)) (set_here _ _ _)
      simp only [i0, i1, i2, i3, i9, i10, w4, hsl1, Option.map_some, Option.map_none, go_sem, Hold.p, HoldK.k, HoldL.K, HoldL.body, Nat.reduceBEq, Nat.reduceAdd, List.getElem?_cons_zero, List.getElem?_cons_succ, Option.bind_some, List.map_cons, List.map_nil, Nat.zero_add, if_true, List.getD_cons_zero, List.getD_cons_succ, List.contains_cons, List.contains_nil, Nat.reduceBEq, Bool.or_true, Bool.true_or, Bool.or_false, Bool.false_or, Bool.not_true, Bool.not_false, true_and, and_true, rowA_whole, push_n, set_n, push_obj, set_obj, set_push, set_push_ne, set_set, Nat.add_assoc, Nat.left_eq_add, Nat.add_eq_left, Nat.add_left_cancel_iff, Nat.reduceEqDiff, stO_1s, stO_ws, boxA_s, one_bool, one_int, one_str, one_ptr, one_nilptr, one_slice, one_eslice, one_nilslice, one_func, one_iface, one_niliface, List.all_cons, List.all_nil, List.length_cons, List.length_nil, Nat.reduceLT, Nat.reduceEqDiff, Nat.reduceLeDiff, Bool.and_true, Nat.one_ne_zero, Nat.succ_ne_zero, reduceIte, if_false, List.getElem?_cons_zero, List.set_cons_zero, List.set_cons_succ]
      exact ⟨SlR.whole (set_here _ _ _) hlen (by simp only [set_n]; omega), E.set _ (by omega) _⟩

set_option maxRecDepth 20000 in
theorem split_c (h : IH) (s : List UInt8) (c : UInt8) (hm : s.length ≤ 1048576) : ICalls Tryd.prog 59 [.str s, .str [c]] h fun r h' => SlR h' 1 r ((cutAt c s).map sRow) ∧ Ext h h' := by
  refine icalls (.of ok59) (Nat.le_of_ble_eq_true rfl) ?_
  unfold c59
  simp only [go_sem, Hold.p, HoldK.k, HoldL.K, HoldL.body, Nat.reduceBEq, Nat.reduceAdd, List.getElem?_cons_zero, List.getElem?_cons_succ, Option.bind_some, List.map_cons, List.map_nil, Nat.zero_add, if_true, List.getD_cons_zero, List.getD_cons_succ, List.contains_cons, List.contains_nil, Nat.reduceBEq, Bool.or_true, Bool.true_or, Bool.or_false, Bool.false_or, Bool.not_true, Bool.not_false, true_and, and_true]
  refine callA_of (genSplit_c h s c hm) ?_
  rintro r h' ⟨hs, hE⟩
  simp only [go_sem, Hold.p, HoldK.k, HoldL.K, HoldL.body, Nat.reduceBEq, Nat.reduceAdd, List.getElem?_cons_zero, List.getElem?_cons_succ, Option.bind_some, List.map_cons, List.map_nil, Nat.zero_add, if_true, List.getD_cons_zero, List.getD_cons_succ, List.contains_cons, List.contains_nil, Nat.reduceBEq, Bool.or_true, Bool.true_or, Bool.or_false, Bool.false_or, Bool.not_true, Bool.not_false, true_and, and_true]
  exact ⟨hs, hE⟩

set_option maxRecDepth 20000 in
theorem l02Cut_c (h : IH) (s : List UInt8) (c : UInt8) (hm : s.length ≤ 1048576) : ICalls Tryd.prog 44 [.str s, .int .u8 c.toNat] h fun r h' => SlR h' 1 r ((cutAt c s).map sRow) ∧ Ext h h' := by
  refine icalls (.of ok44) (Nat.le_of_ble_eq_true rfl) ?_
  unfold c44
  simp only [go_sem, Hold.p, HoldK.k, HoldL.K, HoldL.body, Nat.reduceBEq, Nat.reduceAdd, List.getElem?_cons_zero, List.getElem?_cons_succ, Option.bind_some, List.map_cons, List.map_nil, Nat.zero_add, if_true, List.getD_cons_zero, List.getD_cons_succ, List.contains_cons, List.contains_nil, Nat.reduceBEq, Bool.or_true, Bool.true_or, Bool.or_false, Bool.false_or, Bool.not_true, Bool.not_false, true_and, and_true]
  refine loop_at (fun n e g => ∃ (k from_ : Nat) (v : IV) (lo hi : Nat) (out : List (List UInt8)), n = s.length - k ∧ k ≤ s.length ∧ from_ ≤ k ∧ e 0 = .str s ∧ e 1 = .int .u8 c.toNat ∧ e 5 = v ∧ e 6 = .int .i64 (from_ : Nat) ∧ e 7 = .int .i64 (k : Nat) ∧
    Ext h g ∧ h.n ≤ lo ∧ Own lo hi g 9 1 v (out.map sRow) ∧ hi ≤ g.n ∧ out.length ≤ k ∧ cutAt c (s.take k) = out ++ [(s.take k).drop from_]) s.length ?_ ?_
  · refine ⟨0, 0, .eslice true, h.n, h.n, [], by omega, by omega, by omega, ?_⟩
    simp only [go_sem, Hold.p, HoldK.k, HoldL.K, HoldL.body, Nat.reduceBEq, Nat.reduceAdd, List.getElem?_cons_zero, List.getElem?_cons_succ, Option.bind_some, List.map_cons, List.map_nil, Nat.zero_add, if_true, List.getD_cons_zero, List.getD_cons_succ, List.contains_cons, List.contains_nil, Nat.reduceBEq, Bool.or_true, Bool.true_or, Bool.or_false, Bool.false_or, Bool.not_true, Bool.not_false, true_and, and_true, rowA_whole, push_n, set_n, push_obj, set_obj, set_push, set_push_ne, set_set, Nat.add_assoc, Nat.left_eq_add, Nat.add_eq_left, Nat.add_left_cancel_iff, Nat.reduceEqDiff, stO_1s, stO_ws, boxA_s, one_bool, one_int, one_str, one_ptr, one_nilptr, one_slice, one_eslice, one_nilslice, one_func, one_iface, one_niliface, List.all_cons, List.all_nil, List.length_cons, List.length_nil, Nat.reduceLT, Nat.reduceEqDiff, Nat.reduceLeDiff, Bool.and_true, Nat.one_ne_zero, Nat.succ_ne_zero, reduceIte, if_false, List.getElem?_cons_zero, List.set_cons_zero, List.set_cons_succ]
    exact ⟨rfl, rfl, Ext.refl _, Nat.le_refl _, Own.empty, Nat.le_refl _, by simp [cutAt]⟩
  · rintro n e g ⟨k, from_, v, lo, hi, out, rfl, hk, hf, i0, i1, i5, i6, i7, E, hlo, o, hhi, hol, hcut⟩
    have hle := E.le
    simp only [i0, i1, i5, i6, i7, go_sem, Hold.p, HoldK.k, HoldL.K, HoldL.body, Nat.reduceBEq, Nat.reduceAdd, List.getElem?_cons_zero, List.getElem?_cons_succ, Option.bind_some, List.map_cons, List.map_nil, Nat.zero_add, if_true, List.getD_cons_zero, List.getD_cons_succ, List.contains_cons, List.contains_nil, Nat.reduceBEq, Bool.or_true, Bool.true_or, Bool.or_false, Bool.false_or, Bool.not_true, Bool.not_false, true_and, and_true, rowA_whole, push_n, set_n, push_obj, set_obj, set_push, set_push_ne, set_set, Nat.add_assoc, Nat.left_eq_add, Nat.add_eq_left, Nat.add_left_cancel_iff, Nat.reduceEqDiff, stO_1s, stO_ws, boxA_s, one_bool, one_int, one_str, one_ptr, one_nilptr, one_slice, one_eslice, one_nilslice, one_func, one_iface, one_niliface, List.all_cons, List.all_nil, List.length_cons, List.length_nil, Nat.reduceLT, Nat.reduceEqDiff, Nat.reduceLeDiff, Bool.and_true, Nat.one_ne_zero, Nat.succ_ne_zero, reduceIte, if_false, List.getElem?_cons_zero, List.set_cons_zero, List.set_cons_succ]
    refine test_dec (fun hlt => ?_) (fun hlt => ?_)
    · have hlt' : k < s.length := by omega
      have hkp : s[k]? = some s[k] := List.getElem?_eq_getElem hlt'
      generalize s[k] = b at hkp
      have hix := idxS_at (q := .i64) hkp
      have hn := cutAt_snoc c (s.take k) out _ b hcut
      have htk : s.take k ++ [b] = s.take (k + 1) := by rw [List.take_add_one, hkp]; rfl
      rw [htk] at hn
      by_cases hb : b = c
      · subst hb
        have w1 : wr .i64 ((k : Int) + 1) = ((k + 1 : Nat) : Int) := by rw [wr64 _ (by omega)]; rfl
        have hs1 : slcSF (.str s) (some (.int .i64 (from_ : Int))) (some (.int .i64 (k : Int))) = some (.str ((s.take k).drop from_)) := by
          rw [slcSF_of (boundF_of (by omega) (by omega)) (boundF_of (by omega) (by simp; omega))]; simp
        simp only [i0, i1, i5, i6, i7, hix, decide_true, hs1, w1, Option.map_some, Option.map_none, go_sem, Hold.p, HoldK.k, HoldL.K, HoldL.body, Nat.reduceBEq, Nat.reduceAdd, List.getElem?_cons_zero, List.getElem?_cons_succ, Option.bind_some, List.map_cons, List.map_nil, Nat.zero_add, if_true, List.getD_cons_zero, List.getD_cons_succ, List.contains_cons, List.contains_nil, Nat.reduceBEq, Bool.or_true, Bool.true_or, Bool.or_false, Bool.false_or, Bool.not_true, Bool.not_false, true_and, and_true, rowA_whole, push_n, set_n, push_obj, set_obj, set_push, set_push_ne, set_set, Nat.add_assoc, Nat.left_eq_add, Nat.add_eq_left, Nat.add_left_cancel_iff, Nat.reduceEqDiff, stO_1s, stO_ws, boxA_s, one_bool, one_int, one_str, one_ptr, one_nilptr, one_slice, one_eslice, one_nilslice, one_func, one_iface, one_niliface, List.all_cons, List.all_nil, List.length_cons, List.length_nil, Nat.reduceLT, Nat.reduceEqDiff, Nat.reduceLeDiff, Bool.and_true, Nat.one_ne_zero, Nat.succ_ne_zero, reduceIte, if_false, List.getElem?_cons_zero, List.set_cons_zero, List.set_cons_succ]
        generalize hq_g1 : IH.push g (IObj.rows [[IV.str ((s.take k).drop from_)]] 9 1 false) = g1
        have e_g1 : Ext g g1 := by rw [← hq_g1]; exact (Ext.refl _).push _
        have l_g1 : g1.n = g.n + 1 := by rw [← hq_g1]; rfl
        have ba : At g1 g.n (IObj.rows [[IV.str ((s.take k).drop from_)]] 9 1 false) := by rw [← hq_g1]; exact At.new _ _
        clear hq_g1
        have o := o.ext e_g1
        have E := E.ext e_g1
        refine o.app (by simp) (by simp; omega) ?_
        intro v6 h6 o6 t6 n6 v6o v6c
        have E := E.turn o (by omega) t6
        have le_t6 := t6.le
        simp only [i0, i1, i5, i6, i7, w1, go_sem, Hold.p, HoldK.k, HoldL.K, HoldL.body, Nat.reduceBEq, Nat.reduceAdd, List.getElem?_cons_zero, List.getElem?_cons_succ, Option.bind_some, List.map_cons, List.map_nil, Nat.zero_add, if_true, List.getD_cons_zero, List.getD_cons_succ, List.contains_cons, List.contains_nil, Nat.reduceBEq, Bool.or_true, Bool.true_or, Bool.or_false, Bool.false_or, Bool.not_true, Bool.not_false, true_and, and_true, rowA_whole, push_n, set_n, push_obj, set_obj, set_push, set_push_ne, set_set, Nat.add_assoc, Nat.left_eq_add, Nat.add_eq_left, Nat.add_left_cancel_iff, Nat.reduceEqDiff, stO_1s, stO_ws, boxA_s, one_bool, one_int, one_str, one_ptr, one_nilptr, one_slice, one_eslice, one_nilslice, one_func, one_iface, one_niliface, List.all_cons, List.all_nil, List.length_cons, List.length_nil, Nat.reduceLT, Nat.reduceEqDiff, Nat.reduceLeDiff, Bool.and_true, Nat.one_ne_zero, Nat.succ_ne_zero, reduceIte, if_false, List.getElem?_cons_zero, List.set_cons_zero, List.set_cons_succ]
        rw [if_pos (by simp)] at hn
        refine ⟨_, ?_, k + 1, k + 1, v6, g1.n, g1.n + 1, out ++ [(s.take k).drop from_], rfl, by omega, Nat.le_refl _, rfl, rfl, rfl, E, by omega, by simpa [sRow] using o6, by omega, by simp; omega, ?_⟩
        · omega
        · rw [hn]; simp
      · have hb2 : decide ((b.toNat : Int) = (c.toNat : Int)) = false := by
          simp only [decide_eq_false_iff_not]
          intro h0
          exact hb (UInt8.toNat_inj.1 (by omega))
        simp only [i0, i1, i5, i6, i7, hix, hb2, go_sem, Hold.p, HoldK.k, HoldL.K, HoldL.body, Nat.reduceBEq, Nat.reduceAdd, List.getElem?_cons_zero, List.getElem?_cons_succ, Option.bind_some, List.map_cons, List.map_nil, Nat.zero_add, if_true, List.getD_cons_zero, List.getD_cons_succ, List.contains_cons, List.contains_nil, Nat.reduceBEq, Bool.or_true, Bool.true_or, Bool.or_false, Bool.false_or, Bool.not_true, Bool.not_false, true_and, and_true, rowA_whole, push_n, set_n, push_obj, set_obj, set_push, set_push_ne, set_set, Nat.add_assoc, Nat.left_eq_add, Nat.add_eq_left, Nat.add_left_cancel_iff, Nat.reduceEqDiff, stO_1s, stO_ws, boxA_s, one_bool, one_int, one_str, one_ptr, one_nilptr, one_slice, one_eslice, one_nilslice, one_func, one_iface, one_niliface, List.all_cons, List.all_nil, List.length_cons, List.length_nil, Nat.reduceLT, Nat.reduceEqDiff, Nat.reduceLeDiff, Bool.and_true, Nat.one_ne_zero, Nat.succ_ne_zero, reduceIte, if_false, List.getElem?_cons_zero, List.set_cons_zero, List.set_cons_succ]
        rw [if_neg (by simpa using hb)] at hn
        refine ⟨_, ?_, k + 1, from_, v, lo, hi, out, rfl, by omega, by omega, rfl, rfl, wr64_succ k (by omega), E, hlo, o, hhi, by omega, ?_⟩
        · omega
        · rw [hn]
          congr 2
          rw [← htk, List.drop_append_of_le_length (by simp; omega)]
    · obtain rfl : k = s.length := by omega
      rw [List.take_length] at hcut
      have hs1 : slcSF (.str s) (some (.int .i64 (from_ : Int))) none = some (.str (s.drop from_)) := by
        rw [slcSF_of rfl (boundF_of (by omega) (by omega))]; simp
      simp only [i0, i1, i5, i6, i7, hs1, Option.map_some, Option.map_none, go_sem, Hold.p, HoldK.k, HoldL.K, HoldL.body, Nat.reduceBEq, Nat.reduceAdd, List.getElem?_cons_zero, List.getElem?_cons_succ, Option.bind_some, List.map_cons, List.map_nil, Nat.zero_add, if_true, List.getD_cons_zero, List.getD_cons_succ, List.contains_cons, List.contains_nil, Nat.reduceBEq, Bool.or_true, Bool.true_or, Bool.or_false, Bool.false_or, Bool.not_true, Bool.not_false, true_and, and_true, rowA_whole, push_n, set_n, push_obj, set_obj, set_push, set_push_ne, set_set, Nat.add_assoc, Nat.left_eq_add, Nat.add_eq_left, Nat.add_left_cancel_iff, Nat.reduceEqDiff, stO_1s, stO_ws, boxA_s, one_bool, one_int, one_str, one_ptr, one_nilptr, one_slice, one_eslice, one_nilslice, one_func, one_iface, one_niliface, List.all_cons, List.all_nil, List.length_cons, List.length_nil, Nat.reduceLT, Nat.reduceEqDiff, Nat.reduceLeDiff, Bool.and_true, Nat.one_ne_zero, Nat.succ_ne_zero, reduceIte, if_false, List.getElem?_cons_zero, List.set_cons_zero, List.set_cons_succ]
      generalize hq_g1 : IH.push g (IObj.rows [[IV.str (s.drop from_)]] 9 1 false) = g1
      have e_g1 : Ext g g1 := by rw [← hq_g1]; exact (Ext.refl _).push _
      have l_g1 : g1.n = g.n + 1 := by rw [← hq_g1]; rfl
      have ba : At g1 g.n (IObj.rows [[IV.str (s.drop from_)]] 9 1 false) := by rw [← hq_g1]; exact At.new _ _
      clear hq_g1
      have o := o.ext e_g1
      have E := E.ext e_g1
      refine o.app (by simp) (by simp; omega) ?_
      intro v6 h6 o6 t6 n6 v6o v6c
      have E := E.turn o (by omega) t6
      have le_t6 := t6.le
      simp only [go_sem, Hold.p, HoldK.k, HoldL.K, HoldL.body, Nat.reduceBEq, Nat.reduceAdd, List.getElem?_cons_zero, List.getElem?_cons_succ, Option.bind_some, List.map_cons, List.map_nil, Nat.zero_add, if_true, List.getD_cons_zero, List.getD_cons_succ, List.contains_cons, List.contains_nil, Nat.reduceBEq, Bool.or_true, Bool.true_or, Bool.or_false, Bool.false_or, Bool.not_true, Bool.not_false, true_and, and_true, rowA_whole, push_n, set_n, push_obj, set_obj, set_push, set_push_ne, set_set, Nat.add_assoc, Nat.left_eq_add, Nat.add_eq_left, Nat.add_left_cancel_iff, Nat.reduceEqDiff, stO_1s, stO_ws, boxA_s, one_bool, one_int, one_str, one_ptr, one_nilptr, one_slice, one_eslice, one_nilslice, one_func, one_iface, one_niliface, List.all_cons, List.all_nil, List.length_cons, List.length_nil, Nat.reduceLT, Nat.reduceEqDiff, Nat.reduceLeDiff, Bool.and_true, Nat.one_ne_zero, Nat.succ_ne_zero, reduceIte, if_false, List.getElem?_cons_zero, List.set_cons_zero, List.set_cons_succ]
      refine ⟨?_, E⟩
      rw [hcut]
      simpa [sRow] using o6.sl
end Go.Proofs.YtdpaehdolhdjdaaDoor


namespace Go.Proofs.YtdpaehdolhdjdaaDoor
open Go Go.IW

/-- A byte of a label. -/
def okC (b : UInt8) : Bool := (decide (97 ≤ (b.toNat : Int)) && decide ((b.toNat : Int) ≤ 122)) || (decide (48 ≤ (b.toNat : Int)) && decide ((b.toNat : Int) ≤ 57)) || decide ((b.toNat : Int) = 45)
theorem class6 (b : UInt8) : (b.toNat : Int) = 45 ∨ ((b.toNat : Int) < 48 ∧ (b.toNat : Int) ≠ 45) ∨ (48 ≤ (b.toNat : Int) ∧ (b.toNat : Int) ≤ 57) ∨ (58 ≤ (b.toNat : Int) ∧ (b.toNat : Int) < 97) ∨ (97 ≤ (b.toNat : Int) ∧ (b.toNat : Int) ≤ 122) ∨ 122 < (b.toNat : Int) := by omega
/-- The ends of a label. -/
def ends (s : List UInt8) : Bool := decide (((s.getD 0 0).toNat : Int) = 45) || decide (((s.getD (s.length - 1) 0).toNat : Int) = 45)
def okLabel (s : List UInt8) : Bool := decide (1 ≤ s.length) && decide (s.length ≤ 20) && !ends s && s.all okC
def okName (s : List UInt8) : Bool := decide (s.length ≤ 63) && (cutAt 46 s).all okLabel
theorem take_all {α : Type} {p : α → Bool} {s : List α} {k : Nat} {b : α} (hk : s[k]? = some b) (h : (s.take k).all p = true) : (s.take (k + 1)).all p = p b := by
  rw [List.take_add_one, hk, List.all_append, h]; simp
theorem not_all {α : Type} {p : α → Bool} {s : List α} {k : Nat} {b : α} (hk : s[k]? = some b) (h : p b = false) : s.all p = false := by
  rw [List.all_eq_false]
  exact ⟨b, List.mem_of_getElem? hk, by simp [h]⟩
theorem label_short {s : List UInt8} (h : s.length < 1 ∨ 20 < s.length) : okLabel s = false := by
  unfold okLabel
  rcases h with h | h
  · have : decide (1 ≤ s.length) = false := decide_eq_false (by omega)
    rw [this]; rfl
  · have : decide (s.length ≤ 20) = false := decide_eq_false (by omega)
    rw [this]; simp
theorem label_long {s : List UInt8} (h1 : ¬ s.length < 1) (h2 : ¬ 20 < s.length) : okLabel s = (!ends s && s.all okC) := by
  unfold okLabel
  have e1 : decide (1 ≤ s.length) = true := decide_eq_true (by omega)
  have e2 : decide (s.length ≤ 20) = true := decide_eq_true (by omega)
  rw [e1, e2]; rfl

set_option maxRecDepth 20000 in
theorem l19Label_c (h : IH) (s : List UInt8) : ICalls Tryd.prog 129 [.str s] h fun r h' => r = .bool (okLabel s) ∧ h' = h := by
  refine icalls (.of ok129) (Nat.le_of_ble_eq_true rfl) ?_
  unfold c129
  by_cases c1 : s.length < 1
  · have d1 : decide ((s.length : Int) < 1) = true := decide_eq_true (by omega)
    simp only [d1, go_sem, Hold.p, HoldK.k, HoldL.K, HoldL.body, Nat.reduceBEq, Nat.reduceAdd, List.getElem?_cons_zero, List.getElem?_cons_succ, Option.bind_some, List.map_cons, List.map_nil, Nat.zero_add, if_true, List.getD_cons_zero, List.getD_cons_succ, List.contains_cons, List.contains_nil, Nat.reduceBEq, Bool.or_true, Bool.true_or, Bool.or_false, Bool.false_or, Bool.not_true, Bool.not_false, true_and, and_true, rowA_whole, push_n, set_n, push_obj, set_obj, set_push, set_push_ne, set_set, Nat.add_assoc, Nat.left_eq_add, Nat.add_eq_left, Nat.add_left_cancel_iff, Nat.reduceEqDiff, stO_1s, stO_ws, boxA_s, one_bool, one_int, one_str, one_ptr, one_nilptr, one_slice, one_eslice, one_nilslice, one_func, one_iface, one_niliface, List.all_cons, List.all_nil, List.length_cons, List.length_nil, Nat.reduceLT, Nat.reduceEqDiff, Nat.reduceLeDiff, Bool.and_true, Nat.one_ne_zero, Nat.succ_ne_zero, reduceIte, if_false, List.getElem?_cons_zero, List.set_cons_zero, List.set_cons_succ]
    rw [label_short (.inl c1)]
  · have d1 : decide ((s.length : Int) < 1) = false := decide_eq_false (by omega)
    by_cases c2 : 20 < s.length
    · have d2 : decide (20 < (s.length : Int)) = true := decide_eq_true (by omega)
      simp only [d1, d2, go_sem, Hold.p, HoldK.k, HoldL.K, HoldL.body, Nat.reduceBEq, Nat.reduceAdd, List.getElem?_cons_zero, List.getElem?_cons_succ, Option.bind_some, List.map_cons, List.map_nil, Nat.zero_add, if_true, List.getD_cons_zero, List.getD_cons_succ, List.contains_cons, List.contains_nil, Nat.reduceBEq, Bool.or_true, Bool.true_or, Bool.or_false, Bool.false_or, Bool.not_true, Bool.not_false, true_and, and_true, rowA_whole, push_n, set_n, push_obj, set_obj, set_push, set_push_ne, set_set, Nat.add_assoc, Nat.left_eq_add, Nat.add_eq_left, Nat.add_left_cancel_iff, Nat.reduceEqDiff, stO_1s, stO_ws, boxA_s, one_bool, one_int, one_str, one_ptr, one_nilptr, one_slice, one_eslice, one_nilslice, one_func, one_iface, one_niliface, List.all_cons, List.all_nil, List.length_cons, List.length_nil, Nat.reduceLT, Nat.reduceEqDiff, Nat.reduceLeDiff, Bool.and_true, Nat.one_ne_zero, Nat.succ_ne_zero, reduceIte, if_false, List.getElem?_cons_zero, List.set_cons_zero, List.set_cons_succ]
      rw [label_short (.inr c2)]
    · have d2 : decide (20 < (s.length : Int)) = false := decide_eq_false (by omega)
      rw [label_long c1 c2]
      have g0 : s[0]? = some (s.getD 0 0) := by rw [List.getD_eq_getElem?_getD, List.getElem?_eq_getElem (by omega)]; rfl
      have g1 : s[s.length - 1]? = some (s.getD (s.length - 1) 0) := by rw [List.getD_eq_getElem?_getD, List.getElem?_eq_getElem (by omega)]; rfl
      have x0 : idxSF (.str s) (.int .i64 0) = some (.int .u8 (s.getD 0 0).toNat) := by simpa using idxS_at (q := .i64) g0
      have w1 : wr .i64 ((s.length : Int) - 1) = ((s.length - 1 : Nat) : Int) := by rw [wr64 _ (by omega)]; omega
      have x1 := idxS_at (q := .i64) g1
      unfold ends
      cases d3 : decide (((s.getD 0 0).toNat : Int) = 45)
      · cases d4 : decide (((s.getD (s.length - 1) 0).toNat : Int) = 45)
        · simp only [d1, d2, x0, w1, x1, d3, d4, go_sem, Hold.p, HoldK.k, HoldL.K, HoldL.body, Nat.reduceBEq, Nat.reduceAdd, List.getElem?_cons_zero, List.getElem?_cons_succ, Option.bind_some, List.map_cons, List.map_nil, Nat.zero_add, if_true, List.getD_cons_zero, List.getD_cons_succ, List.contains_cons, List.contains_nil, Nat.reduceBEq, Bool.or_true, Bool.true_or, Bool.or_false, Bool.false_or, Bool.not_true, Bool.not_false, true_and, and_true, rowA_whole, push_n, set_n, push_obj, set_obj, set_push, set_push_ne, set_set, Nat.add_assoc, Nat.left_eq_add, Nat.add_eq_left, Nat.add_left_cancel_iff, Nat.reduceEqDiff, stO_1s, stO_ws, boxA_s, one_bool, one_int, one_str, one_ptr, one_nilptr, one_slice, one_eslice, one_nilslice, one_func, one_iface, one_niliface, List.all_cons, List.all_nil, List.length_cons, List.length_nil, Nat.reduceLT, Nat.reduceEqDiff, Nat.reduceLeDiff, Bool.and_true, Nat.one_ne_zero, Nat.succ_ne_zero, reduceIte, if_false, List.getElem?_cons_zero, List.set_cons_zero, List.set_cons_succ]
          refine loop_at (fun n e h' => ∃ k, n = s.length - k ∧ k ≤ s.length ∧ e 0 = .str s ∧ e 3 = .int .i64 (k : Nat) ∧ h' = h ∧ (s.take k).all okC = true) s.length ?_ ?_
          · refine ⟨0, by omega, by omega, ?_⟩
            simp only [go_sem, Hold.p, HoldK.k, HoldL.K, HoldL.body, Nat.reduceBEq, Nat.reduceAdd, List.getElem?_cons_zero, List.getElem?_cons_succ, Option.bind_some, List.map_cons, List.map_nil, Nat.zero_add, if_true, List.getD_cons_zero, List.getD_cons_succ, List.contains_cons, List.contains_nil, Nat.reduceBEq, Bool.or_true, Bool.true_or, Bool.or_false, Bool.false_or, Bool.not_true, Bool.not_false, true_and, and_true, rowA_whole, push_n, set_n, push_obj, set_obj, set_push, set_push_ne, set_set, Nat.add_assoc, Nat.left_eq_add, Nat.add_eq_left, Nat.add_left_cancel_iff, Nat.reduceEqDiff, stO_1s, stO_ws, boxA_s, one_bool, one_int, one_str, one_ptr, one_nilptr, one_slice, one_eslice, one_nilslice, one_func, one_iface, one_niliface, List.all_cons, List.all_nil, List.length_cons, List.length_nil, Nat.reduceLT, Nat.reduceEqDiff, Nat.reduceLeDiff, Bool.and_true, Nat.one_ne_zero, Nat.succ_ne_zero, reduceIte, if_false, List.getElem?_cons_zero, List.set_cons_zero, List.set_cons_succ]
            exact ⟨rfl, by simp⟩
          · rintro n e h' ⟨k, rfl, hk, i0, i3, rfl, hall⟩
            simp only [i0, i3, go_sem, Hold.p, HoldK.k, HoldL.K, HoldL.body, Nat.reduceBEq, Nat.reduceAdd, List.getElem?_cons_zero, List.getElem?_cons_succ, Option.bind_some, List.map_cons, List.map_nil, Nat.zero_add, if_true, List.getD_cons_zero, List.getD_cons_succ, List.contains_cons, List.contains_nil, Nat.reduceBEq, Bool.or_true, Bool.true_or, Bool.or_false, Bool.false_or, Bool.not_true, Bool.not_false, true_and, and_true, rowA_whole, push_n, set_n, push_obj, set_obj, set_push, set_push_ne, set_set, Nat.add_assoc, Nat.left_eq_add, Nat.add_eq_left, Nat.add_left_cancel_iff, Nat.reduceEqDiff, stO_1s, stO_ws, boxA_s, one_bool, one_int, one_str, one_ptr, one_nilptr, one_slice, one_eslice, one_nilslice, one_func, one_iface, one_niliface, List.all_cons, List.all_nil, List.length_cons, List.length_nil, Nat.reduceLT, Nat.reduceEqDiff, Nat.reduceLeDiff, Bool.and_true, Nat.one_ne_zero, Nat.succ_ne_zero, reduceIte, if_false, List.getElem?_cons_zero, List.set_cons_zero, List.set_cons_succ]
            refine test_dec (fun hlt => ?_) (fun hlt => ?_)
            · have hlt' : k < s.length := by omega
              have hkp : s[k]? = some s[k] := List.getElem?_eq_getElem hlt'
              generalize s[k] = b at hkp
              have hix := idxS_at (q := .i64) hkp
              rcases class6 b with hc | hc | hc | hc | hc | hc
              · have q1 : decide ((b.toNat : Int) < 97) = true := decide_eq_true (by omega)
                have q2 : decide (122 < (b.toNat : Int)) = false := decide_eq_false (by omega)
                have q3 : decide ((b.toNat : Int) < 48) = true := decide_eq_true (by omega)
                have q4 : decide (57 < (b.toNat : Int)) = false := decide_eq_false (by omega)
                have q5 : decide ((b.toNat : Int) = 45) = true := decide_eq_true (by omega)
                have hok : okC b = true := by unfold okC; simp; omega
                simp only [i0, i3, hix, q1, q2, q3, q4, q5, go_sem, Hold.p, HoldK.k, HoldL.K, HoldL.body, Nat.reduceBEq, Nat.reduceAdd, List.getElem?_cons_zero, List.getElem?_cons_succ, Option.bind_some, List.map_cons, List.map_nil, Nat.zero_add, if_true, List.getD_cons_zero, List.getD_cons_succ, List.contains_cons, List.contains_nil, Nat.reduceBEq, Bool.or_true, Bool.true_or, Bool.or_false, Bool.false_or, Bool.not_true, Bool.not_false, true_and, and_true, rowA_whole, push_n, set_n, push_obj, set_obj, set_push, set_push_ne, set_set, Nat.add_assoc, Nat.left_eq_add, Nat.add_eq_left, Nat.add_left_cancel_iff, Nat.reduceEqDiff, stO_1s, stO_ws, boxA_s, one_bool, one_int, one_str, one_ptr, one_nilptr, one_slice, one_eslice, one_nilslice, one_func, one_iface, one_niliface, List.all_cons, List.all_nil, List.length_cons, List.length_nil, Nat.reduceLT, Nat.reduceEqDiff, Nat.reduceLeDiff, Bool.and_true, Nat.one_ne_zero, Nat.succ_ne_zero, reduceIte, if_false, List.getElem?_cons_zero, List.set_cons_zero, List.set_cons_succ]
                exact ⟨_, by omega, k + 1, rfl, by omega, wr64_succ k (by omega), by rw [take_all hkp hall, hok]⟩
              · have q1 : decide ((b.toNat : Int) < 97) = true := decide_eq_true (by omega)
                have q2 : decide (122 < (b.toNat : Int)) = false := decide_eq_false (by omega)
                have q3 : decide ((b.toNat : Int) < 48) = true := decide_eq_true (by omega)
                have q4 : decide (57 < (b.toNat : Int)) = false := decide_eq_false (by omega)
                have q5 : decide ((b.toNat : Int) = 45) = false := decide_eq_false (by omega)
                have hok : okC b = false := by unfold okC; simp; omega
                simp only [i0, i3, hix, q1, q2, q3, q4, q5, go_sem, Hold.p, HoldK.k, HoldL.K, HoldL.body, Nat.reduceBEq, Nat.reduceAdd, List.getElem?_cons_zero, List.getElem?_cons_succ, Option.bind_some, List.map_cons, List.map_nil, Nat.zero_add, if_true, List.getD_cons_zero, List.getD_cons_succ, List.contains_cons, List.contains_nil, Nat.reduceBEq, Bool.or_true, Bool.true_or, Bool.or_false, Bool.false_or, Bool.not_true, Bool.not_false, true_and, and_true, rowA_whole, push_n, set_n, push_obj, set_obj, set_push, set_push_ne, set_set, Nat.add_assoc, Nat.left_eq_add, Nat.add_eq_left, Nat.add_left_cancel_iff, Nat.reduceEqDiff, stO_1s, stO_ws, boxA_s, one_bool, one_int, one_str, one_ptr, one_nilptr, one_slice, one_eslice, one_nilslice, one_func, one_iface, one_niliface, List.all_cons, List.all_nil, List.length_cons, List.length_nil, Nat.reduceLT, Nat.reduceEqDiff, Nat.reduceLeDiff, Bool.and_true, Nat.one_ne_zero, Nat.succ_ne_zero, reduceIte, if_false, List.getElem?_cons_zero, List.set_cons_zero, List.set_cons_succ]
                rw [not_all hkp hok]; rfl
              · have q1 : decide ((b.toNat : Int) < 97) = true := decide_eq_true (by omega)
                have q2 : decide (122 < (b.toNat : Int)) = false := decide_eq_false (by omega)
                have q3 : decide ((b.toNat : Int) < 48) = false := decide_eq_false (by omega)
                have q4 : decide (57 < (b.toNat : Int)) = false := decide_eq_false (by omega)
                have q5 : decide ((b.toNat : Int) = 45) = false := decide_eq_false (by omega)
                have hok : okC b = true := by unfold okC; simp; omega
                simp only [i0, i3, hix, q1, q2, q3, q4, q5, go_sem, Hold.p, HoldK.k, HoldL.K, HoldL.body, Nat.reduceBEq, Nat.reduceAdd, List.getElem?_cons_zero, List.getElem?_cons_succ, Option.bind_some, List.map_cons, List.map_nil, Nat.zero_add, if_true, List.getD_cons_zero, List.getD_cons_succ, List.contains_cons, List.contains_nil, Nat.reduceBEq, Bool.or_true, Bool.true_or, Bool.or_false, Bool.false_or, Bool.not_true, Bool.not_false, true_and, and_true, rowA_whole, push_n, set_n, push_obj, set_obj, set_push, set_push_ne, set_set, Nat.add_assoc, Nat.left_eq_add, Nat.add_eq_left, Nat.add_left_cancel_iff, Nat.reduceEqDiff, stO_1s, stO_ws, boxA_s, one_bool, one_int, one_str, one_ptr, one_nilptr, one_slice, one_eslice, one_nilslice, one_func, one_iface, one_niliface, List.all_cons, List.all_nil, List.length_cons, List.length_nil, Nat.reduceLT, Nat.reduceEqDiff, Nat.reduceLeDiff, Bool.and_true, Nat.one_ne_zero, Nat.succ_ne_zero, reduceIte, if_false, List.getElem?_cons_zero, List.set_cons_zero, List.set_cons_succ]
                exact ⟨_, by omega, k + 1, rfl, by omega, wr64_succ k (by omega), by rw [take_all hkp hall, hok]⟩
              · have q1 : decide ((b.toNat : Int) < 97) = true := decide_eq_true (by omega)
                have q2 : decide (122 < (b.toNat : Int)) = false := decide_eq_false (by omega)
                have q3 : decide ((b.toNat : Int) < 48) = false := decide_eq_false (by omega)
                have q4 : decide (57 < (b.toNat : Int)) = true := decide_eq_true (by omega)
                have q5 : decide ((b.toNat : Int) = 45) = false := decide_eq_false (by omega)
                have hok : okC b = false := by unfold okC; simp; omega
                simp only [i0, i3, hix, q1, q2, q3, q4, q5, go_sem, Hold.p, HoldK.k, HoldL.K, HoldL.body, Nat.reduceBEq, Nat.reduceAdd, List.getElem?_cons_zero, List.getElem?_cons_succ, Option.bind_some, List.map_cons, List.map_nil, Nat.zero_add, if_true, List.getD_cons_zero, List.getD_cons_succ, List.contains_cons, List.contains_nil, Nat.reduceBEq, Bool.or_true, Bool.true_or, Bool.or_false, Bool.false_or, Bool.not_true, Bool.not_false, true_and, and_true, rowA_whole, push_n, set_n, push_obj, set_obj, set_push, set_push_ne, set_set, Nat.add_assoc, Nat.left_eq_add, Nat.add_eq_left, Nat.add_left_cancel_iff, Nat.reduceEqDiff, stO_1s, stO_ws, boxA_s, one_bool, one_int, one_str, one_ptr, one_nilptr, one_slice, one_eslice, one_nilslice, one_func, one_iface, one_niliface, List.all_cons, List.all_nil, List.length_cons, List.length_nil, Nat.reduceLT, Nat.reduceEqDiff, Nat.reduceLeDiff, Bool.and_true, Nat.one_ne_zero, Nat.succ_ne_zero, reduceIte, if_false, List.getElem?_cons_zero, List.set_cons_zero, List.set_cons_succ]
                rw [not_all hkp hok]; rfl
              · have q1 : decide ((b.toNat : Int) < 97) = false := decide_eq_false (by omega)
                have q2 : decide (122 < (b.toNat : Int)) = false := decide_eq_false (by omega)
                have q3 : decide ((b.toNat : Int) < 48) = false := decide_eq_false (by omega)
                have q4 : decide (57 < (b.toNat : Int)) = true := decide_eq_true (by omega)
                have q5 : decide ((b.toNat : Int) = 45) = false := decide_eq_false (by omega)
                have hok : okC b = true := by unfold okC; simp; omega
                simp only [i0, i3, hix, q1, q2, q3, q4, q5, go_sem, Hold.p, HoldK.k, HoldL.K, HoldL.body, Nat.reduceBEq, Nat.reduceAdd, List.getElem?_cons_zero, List.getElem?_cons_succ, Option.bind_some, List.map_cons, List.map_nil, Nat.zero_add, if_true, List.getD_cons_zero, List.getD_cons_succ, List.contains_cons, List.contains_nil, Nat.reduceBEq, Bool.or_true, Bool.true_or, Bool.or_false, Bool.false_or, Bool.not_true, Bool.not_false, true_and, and_true, rowA_whole, push_n, set_n, push_obj, set_obj, set_push, set_push_ne, set_set, Nat.add_assoc, Nat.left_eq_add, Nat.add_eq_left, Nat.add_left_cancel_iff, Nat.reduceEqDiff, stO_1s, stO_ws, boxA_s, one_bool, one_int, one_str, one_ptr, one_nilptr, one_slice, one_eslice, one_nilslice, one_func, one_iface, one_niliface, List.all_cons, List.all_nil, List.length_cons, List.length_nil, Nat.reduceLT, Nat.reduceEqDiff, Nat.reduceLeDiff, Bool.and_true, Nat.one_ne_zero, Nat.succ_ne_zero, reduceIte, if_false, List.getElem?_cons_zero, List.set_cons_zero, List.set_cons_succ]
                exact ⟨_, by omega, k + 1, rfl, by omega, wr64_succ k (by omega), by rw [take_all hkp hall, hok]⟩
              · have q1 : decide ((b.toNat : Int) < 97) = false := decide_eq_false (by omega)
                have q2 : decide (122 < (b.toNat : Int)) = true := decide_eq_true (by omega)
                have q3 : decide ((b.toNat : Int) < 48) = false := decide_eq_false (by omega)
                have q4 : decide (57 < (b.toNat : Int)) = true := decide_eq_true (by omega)
                have q5 : decide ((b.toNat : Int) = 45) = false := decide_eq_false (by omega)
                have hok : okC b = false := by unfold okC; simp; omega
                simp only [i0, i3, hix, q1, q2, q3, q4, q5, go_sem, Hold.p, HoldK.k, HoldL.K, HoldL.body, Nat.reduceBEq, Nat.reduceAdd, List.getElem?_cons_zero, List.getElem?_cons_succ, Option.bind_some, List.map_cons, List.map_nil, Nat.zero_add, if_true, List.getD_cons_zero, List.getD_cons_succ, List.contains_cons, List.contains_nil, Nat.reduceBEq, Bool.or_true, Bool.true_or, Bool.or_false, Bool.false_or, Bool.not_true, Bool.not_false, true_and, and_true, rowA_whole, push_n, set_n, push_obj, set_obj, set_push, set_push_ne, set_set, Nat.add_assoc, Nat.left_eq_add, Nat.add_eq_left, Nat.add_left_cancel_iff, Nat.reduceEqDiff, stO_1s, stO_ws, boxA_s, one_bool, one_int, one_str, one_ptr, one_nilptr, one_slice, one_eslice, one_nilslice, one_func, one_iface, one_niliface, List.all_cons, List.all_nil, List.length_cons, List.length_nil, Nat.reduceLT, Nat.reduceEqDiff, Nat.reduceLeDiff, Bool.and_true, Nat.one_ne_zero, Nat.succ_ne_zero, reduceIte, if_false, List.getElem?_cons_zero, List.set_cons_zero, List.set_cons_succ]
                rw [not_all hkp hok]; rfl
            · obtain rfl : k = s.length := by omega
              rw [List.take_length] at hall
              simp only [i0, i3, go_sem, Hold.p, HoldK.k, HoldL.K, HoldL.body, Nat.reduceBEq, Nat.reduceAdd, List.getElem?_cons_zero, List.getElem?_cons_succ, Option.bind_some, List.map_cons, List.map_nil, Nat.zero_add, if_true, List.getD_cons_zero, List.getD_cons_succ, List.contains_cons, List.contains_nil, Nat.reduceBEq, Bool.or_true, Bool.true_or, Bool.or_false, Bool.false_or, Bool.not_true, Bool.not_false, true_and, and_true, rowA_whole, push_n, set_n, push_obj, set_obj, set_push, set_push_ne, set_set, Nat.add_assoc, Nat.left_eq_add, Nat.add_eq_left, Nat.add_left_cancel_iff, Nat.reduceEqDiff, stO_1s, stO_ws, boxA_s, one_bool, one_int, one_str, one_ptr, one_nilptr, one_slice, one_eslice, one_nilslice, one_func, one_iface, one_niliface, List.all_cons, List.all_nil, List.length_cons, List.length_nil, Nat.reduceLT, Nat.reduceEqDiff, Nat.reduceLeDiff, Bool.and_true, Nat.one_ne_zero, Nat.succ_ne_zero, reduceIte, if_false, List.getElem?_cons_zero, List.set_cons_zero, List.set_cons_succ]
              rw [hall]; rfl
        · simp only [d1, d2, x0, w1, x1, d3, d4, go_sem, Hold.p, HoldK.k, HoldL.K, HoldL.body, Nat.reduceBEq, Nat.reduceAdd, List.getElem?_cons_zero, List.getElem?_cons_succ, Option.bind_some, List.map_cons, List.map_nil, Nat.zero_add, if_true, List.getD_cons_zero, List.getD_cons_succ, List.contains_cons, List.contains_nil, Nat.reduceBEq, Bool.or_true, Bool.true_or, Bool.or_false, Bool.false_or, Bool.not_true, Bool.not_false, true_and, and_true, rowA_whole, push_n, set_n, push_obj, set_obj, set_push, set_push_ne, set_set, Nat.add_assoc, Nat.left_eq_add, Nat.add_eq_left, Nat.add_left_cancel_iff, Nat.reduceEqDiff, stO_1s, stO_ws, boxA_s, one_bool, one_int, one_str, one_ptr, one_nilptr, one_slice, one_eslice, one_nilslice, one_func, one_iface, one_niliface, List.all_cons, List.all_nil, List.length_cons, List.length_nil, Nat.reduceLT, Nat.reduceEqDiff, Nat.reduceLeDiff, Bool.and_true, Nat.one_ne_zero, Nat.succ_ne_zero, reduceIte, if_false, List.getElem?_cons_zero, List.set_cons_zero, List.set_cons_succ]
          rfl
      · simp only [d1, d2, x0, w1, x1, d3, go_sem, Hold.p, HoldK.k, HoldL.K, HoldL.body, Nat.reduceBEq, Nat.reduceAdd, List.getElem?_cons_zero, List.getElem?_cons_succ, Option.bind_some, List.map_cons, List.map_nil, Nat.zero_add, if_true, List.getD_cons_zero, List.getD_cons_succ, List.contains_cons, List.contains_nil, Nat.reduceBEq, Bool.or_true, Bool.true_or, Bool.or_false, Bool.false_or, Bool.not_true, Bool.not_false, true_and, and_true, rowA_whole, push_n, set_n, push_obj, set_obj, set_push, set_push_ne, set_set, Nat.add_assoc, Nat.left_eq_add, Nat.add_eq_left, Nat.add_left_cancel_iff, Nat.reduceEqDiff, stO_1s, stO_ws, boxA_s, one_bool, one_int, one_str, one_ptr, one_nilptr, one_slice, one_eslice, one_nilslice, one_func, one_iface, one_niliface, List.all_cons, List.all_nil, List.length_cons, List.length_nil, Nat.reduceLT, Nat.reduceEqDiff, Nat.reduceLeDiff, Bool.and_true, Nat.one_ne_zero, Nat.succ_ne_zero, reduceIte, if_false, List.getElem?_cons_zero, List.set_cons_zero, List.set_cons_succ]
        rfl
end Go.Proofs.YtdpaehdolhdjdaaDoor


namespace Go.Proofs.YtdpaehdolhdjdaaDoor
open Go Go.IW

set_option maxRecDepth 20000 in
theorem specNameOK_c (h : IH) (s : List UInt8) (hm : s.length ≤ 1048576) : ICalls Tryd.prog 77 [.str s] h fun r h' => r = .bool (okName s) ∧ Ext h h' := by
  refine icalls (.of ok77) (Nat.le_of_ble_eq_true rfl) ?_
  unfold c77
  by_cases c1 : 63 < s.length
  · have d1 : decide (63 < (s.length : Int)) = true := decide_eq_true (by omega)
    simp only [d1, go_sem, Hold.p, HoldK.k, HoldL.K, HoldL.body, Nat.reduceBEq, Nat.reduceAdd, List.getElem?_cons_zero, List.getElem?_cons_succ, Option.bind_some, List.map_cons, List.map_nil, Nat.zero_add, if_true, List.getD_cons_zero, List.getD_cons_succ, List.contains_cons, List.contains_nil, Nat.reduceBEq, Bool.or_true, Bool.true_or, Bool.or_false, Bool.false_or, Bool.not_true, Bool.not_false, true_and, and_true, rowA_whole, push_n, set_n, push_obj, set_obj, set_push, set_push_ne, set_set, Nat.add_assoc, Nat.left_eq_add, Nat.add_eq_left, Nat.add_left_cancel_iff, Nat.reduceEqDiff, stO_1s, stO_ws, boxA_s, one_bool, one_int, one_str, one_ptr, one_nilptr, one_slice, one_eslice, one_nilslice, one_func, one_iface, one_niliface, List.all_cons, List.all_nil, List.length_cons, List.length_nil, Nat.reduceLT, Nat.reduceEqDiff, Nat.reduceLeDiff, Bool.and_true, Nat.one_ne_zero, Nat.succ_ne_zero, reduceIte, if_false, List.getElem?_cons_zero, List.set_cons_zero, List.set_cons_succ]
    have : decide (s.length ≤ 63) = false := decide_eq_false (by omega)
    exact ⟨by unfold okName; rw [this]; rfl, Ext.refl _⟩
  · have d1 : decide (63 < (s.length : Int)) = false := decide_eq_false (by omega)
    have hdef : okName s = (cutAt 46 s).all okLabel := by
      have : decide (s.length ≤ 63) = true := decide_eq_true (by omega)
      unfold okName; rw [this]; rfl
    rw [hdef]
    simp only [d1, go_sem, Hold.p, HoldK.k, HoldL.K, HoldL.body, Nat.reduceBEq, Nat.reduceAdd, List.getElem?_cons_zero, List.getElem?_cons_succ, Option.bind_some, List.map_cons, List.map_nil, Nat.zero_add, if_true, List.getD_cons_zero, List.getD_cons_succ, List.contains_cons, List.contains_nil, Nat.reduceBEq, Bool.or_true, Bool.true_or, Bool.or_false, Bool.false_or, Bool.not_true, Bool.not_false, true_and, and_true, rowA_whole, push_n, set_n, push_obj, set_obj, set_push, set_push_ne, set_set, Nat.add_assoc, Nat.left_eq_add, Nat.add_eq_left, Nat.add_left_cancel_iff, Nat.reduceEqDiff, stO_1s, stO_ws, boxA_s, one_bool, one_int, one_str, one_ptr, one_nilptr, one_slice, one_eslice, one_nilslice, one_func, one_iface, one_niliface, List.all_cons, List.all_nil, List.length_cons, List.length_nil, Nat.reduceLT, Nat.reduceEqDiff, Nat.reduceLeDiff, Bool.and_true, Nat.one_ne_zero, Nat.succ_ne_zero, reduceIte, if_false, List.getElem?_cons_zero, List.set_cons_zero, List.set_cons_succ]
    refine callA_of (l02Cut_c h s 46 hm) ?_
    rintro v h1 ⟨hs, hE⟩
    have hlen := hs.lenF
    rw [List.length_map] at hlen
    simp only [go_sem, Hold.p, HoldK.k, HoldL.K, HoldL.body, Nat.reduceBEq, Nat.reduceAdd, List.getElem?_cons_zero, List.getElem?_cons_succ, Option.bind_some, List.map_cons, List.map_nil, Nat.zero_add, if_true, List.getD_cons_zero, List.getD_cons_succ, List.contains_cons, List.contains_nil, Nat.reduceBEq, Bool.or_true, Bool.true_or, Bool.or_false, Bool.false_or, Bool.not_true, Bool.not_false, true_and, and_true, rowA_whole, push_n, set_n, push_obj, set_obj, set_push, set_push_ne, set_set, Nat.add_assoc, Nat.left_eq_add, Nat.add_eq_left, Nat.add_left_cancel_iff, Nat.reduceEqDiff, stO_1s, stO_ws, boxA_s, one_bool, one_int, one_str, one_ptr, one_nilptr, one_slice, one_eslice, one_nilslice, one_func, one_iface, one_niliface, List.all_cons, List.all_nil, List.length_cons, List.length_nil, Nat.reduceLT, Nat.reduceEqDiff, Nat.reduceLeDiff, Bool.and_true, Nat.one_ne_zero, Nat.succ_ne_zero, reduceIte, if_false, List.getElem?_cons_zero, List.set_cons_zero, List.set_cons_succ]
    have hpl : (cutAt 46 s).length ≤ 1048577 := by rw [cutAt_len]; have := count_le_len 46 s; omega
    generalize cutAt 46 s = parts at hs hlen hpl
    refine loop_at (fun n e h' => ∃ k, n = parts.length - k ∧ k ≤ parts.length ∧ e 3 = v ∧ e 4 = .int .i64 (k : Nat) ∧ h' = h1 ∧ (parts.take k).all okLabel = true) parts.length ?_ ?_
    · refine ⟨0, by omega, by omega, ?_⟩
      simp only [go_sem, Hold.p, HoldK.k, HoldL.K, HoldL.body, Nat.reduceBEq, Nat.reduceAdd, List.getElem?_cons_zero, List.getElem?_cons_succ, Option.bind_some, List.map_cons, List.map_nil, Nat.zero_add, if_true, List.getD_cons_zero, List.getD_cons_succ, List.contains_cons, List.contains_nil, Nat.reduceBEq, Bool.or_true, Bool.true_or, Bool.or_false, Bool.false_or, Bool.not_true, Bool.not_false, true_and, and_true, rowA_whole, push_n, set_n, push_obj, set_obj, set_push, set_push_ne, set_set, Nat.add_assoc, Nat.left_eq_add, Nat.add_eq_left, Nat.add_left_cancel_iff, Nat.reduceEqDiff, stO_1s, stO_ws, boxA_s, one_bool, one_int, one_str, one_ptr, one_nilptr, one_slice, one_eslice, one_nilslice, one_func, one_iface, one_niliface, List.all_cons, List.all_nil, List.length_cons, List.length_nil, Nat.reduceLT, Nat.reduceEqDiff, Nat.reduceLeDiff, Bool.and_true, Nat.one_ne_zero, Nat.succ_ne_zero, reduceIte, if_false, List.getElem?_cons_zero, List.set_cons_zero, List.set_cons_succ]
      exact ⟨rfl, by simp⟩
    · rintro n e h' ⟨k, rfl, hk, i3, i4, rfl, hall⟩
      simp only [i3, i4, hlen, go_sem, Hold.p, HoldK.k, HoldL.K, HoldL.body, Nat.reduceBEq, Nat.reduceAdd, List.getElem?_cons_zero, List.getElem?_cons_succ, Option.bind_some, List.map_cons, List.map_nil, Nat.zero_add, if_true, List.getD_cons_zero, List.getD_cons_succ, List.contains_cons, List.contains_nil, Nat.reduceBEq, Bool.or_true, Bool.true_or, Bool.or_false, Bool.false_or, Bool.not_true, Bool.not_false, true_and, and_true, rowA_whole, push_n, set_n, push_obj, set_obj, set_push, set_push_ne, set_set, Nat.add_assoc, Nat.left_eq_add, Nat.add_eq_left, Nat.add_left_cancel_iff, Nat.reduceEqDiff, stO_1s, stO_ws, boxA_s, one_bool, one_int, one_str, one_ptr, one_nilptr, one_slice, one_eslice, one_nilslice, one_func, one_iface, one_niliface, List.all_cons, List.all_nil, List.length_cons, List.length_nil, Nat.reduceLT, Nat.reduceEqDiff, Nat.reduceLeDiff, Bool.and_true, Nat.one_ne_zero, Nat.succ_ne_zero, reduceIte, if_false, List.getElem?_cons_zero, List.set_cons_zero, List.set_cons_succ]
      refine test_dec (fun hlt => ?_) (fun hlt => ?_)
      · have hlt' : k < parts.length := by omega
        have hkp : parts[k]? = some parts[k] := List.getElem?_eq_getElem hlt'
        generalize parts[k] = p at hkp
        obtain ⟨l, j, hia, hll, hrow⟩ := hs.at (m := k) (row := sRow p) (by rw [List.getElem?_map, hkp]; rfl) .i64
        have hc := cellO_row hrow
        unfold sRow at hc
        simp only [i3, i4, hlen, hia, hc, go_sem, Hold.p, HoldK.k, HoldL.K, HoldL.body, Nat.reduceBEq, Nat.reduceAdd, List.getElem?_cons_zero, List.getElem?_cons_succ, Option.bind_some, List.map_cons, List.map_nil, Nat.zero_add, if_true, List.getD_cons_zero, List.getD_cons_succ, List.contains_cons, List.contains_nil, Nat.reduceBEq, Bool.or_true, Bool.true_or, Bool.or_false, Bool.false_or, Bool.not_true, Bool.not_false, true_and, and_true, rowA_whole, push_n, set_n, push_obj, set_obj, set_push, set_push_ne, set_set, Nat.add_assoc, Nat.left_eq_add, Nat.add_eq_left, Nat.add_left_cancel_iff, Nat.reduceEqDiff, stO_1s, stO_ws, boxA_s, one_bool, one_int, one_str, one_ptr, one_nilptr, one_slice, one_eslice, one_nilslice, one_func, one_iface, one_niliface, List.all_cons, List.all_nil, List.length_cons, List.length_nil, Nat.reduceLT, Nat.reduceEqDiff, Nat.reduceLeDiff, Bool.and_true, Nat.one_ne_zero, Nat.succ_ne_zero, reduceIte, if_false, List.getElem?_cons_zero, List.set_cons_zero, List.set_cons_succ]
        refine callA_of (l19Label_c _ p) ?_
        rintro r h2 ⟨rfl, rfl⟩
        cases hok : okLabel p
        · simp only [i3, i4, go_sem, Hold.p, HoldK.k, HoldL.K, HoldL.body, Nat.reduceBEq, Nat.reduceAdd, List.getElem?_cons_zero, List.getElem?_cons_succ, Option.bind_some, List.map_cons, List.map_nil, Nat.zero_add, if_true, List.getD_cons_zero, List.getD_cons_succ, List.contains_cons, List.contains_nil, Nat.reduceBEq, Bool.or_true, Bool.true_or, Bool.or_false, Bool.false_or, Bool.not_true, Bool.not_false, true_and, and_true, rowA_whole, push_n, set_n, push_obj, set_obj, set_push, set_push_ne, set_set, Nat.add_assoc, Nat.left_eq_add, Nat.add_eq_left, Nat.add_left_cancel_iff, Nat.reduceEqDiff, stO_1s, stO_ws, boxA_s, one_bool, one_int, one_str, one_ptr, one_nilptr, one_slice, one_eslice, one_nilslice, one_func, one_iface, one_niliface, List.all_cons, List.all_nil, List.length_cons, List.length_nil, Nat.reduceLT, Nat.reduceEqDiff, Nat.reduceLeDiff, Bool.and_true, Nat.one_ne_zero, Nat.succ_ne_zero, reduceIte, if_false, List.getElem?_cons_zero, List.set_cons_zero, List.set_cons_succ]
          exact ⟨by rw [not_all hkp hok], hE⟩
        · simp only [i3, i4, go_sem, Hold.p, HoldK.k, HoldL.K, HoldL.body, Nat.reduceBEq, Nat.reduceAdd, List.getElem?_cons_zero, List.getElem?_cons_succ, Option.bind_some, List.map_cons, List.map_nil, Nat.zero_add, if_true, List.getD_cons_zero, List.getD_cons_succ, List.contains_cons, List.contains_nil, Nat.reduceBEq, Bool.or_true, Bool.true_or, Bool.or_false, Bool.false_or, Bool.not_true, Bool.not_false, true_and, and_true, rowA_whole, push_n, set_n, push_obj, set_obj, set_push, set_push_ne, set_set, Nat.add_assoc, Nat.left_eq_add, Nat.add_eq_left, Nat.add_left_cancel_iff, Nat.reduceEqDiff, stO_1s, stO_ws, boxA_s, one_bool, one_int, one_str, one_ptr, one_nilptr, one_slice, one_eslice, one_nilslice, one_func, one_iface, one_niliface, List.all_cons, List.all_nil, List.length_cons, List.length_nil, Nat.reduceLT, Nat.reduceEqDiff, Nat.reduceLeDiff, Bool.and_true, Nat.one_ne_zero, Nat.succ_ne_zero, reduceIte, if_false, List.getElem?_cons_zero, List.set_cons_zero, List.set_cons_succ]
          exact ⟨_, by omega, k + 1, rfl, by omega, wr64_succ k (by omega), by rw [take_all hkp hall, hok]⟩
      · obtain rfl : k = parts.length := by omega
        rw [List.take_length] at hall
        simp only [go_sem, Hold.p, HoldK.k, HoldL.K, HoldL.body, Nat.reduceBEq, Nat.reduceAdd, List.getElem?_cons_zero, List.getElem?_cons_succ, Option.bind_some, List.map_cons, List.map_nil, Nat.zero_add, if_true, List.getD_cons_zero, List.getD_cons_succ, List.contains_cons, List.contains_nil, Nat.reduceBEq, Bool.or_true, Bool.true_or, Bool.or_false, Bool.false_or, Bool.not_true, Bool.not_false, true_and, and_true, rowA_whole, push_n, set_n, push_obj, set_obj, set_push, set_push_ne, set_set, Nat.add_assoc, Nat.left_eq_add, Nat.add_eq_left, Nat.add_left_cancel_iff, Nat.reduceEqDiff, stO_1s, stO_ws, boxA_s, one_bool, one_int, one_str, one_ptr, one_nilptr, one_slice, one_eslice, one_nilslice, one_func, one_iface, one_niliface, List.all_cons, List.all_nil, List.length_cons, List.length_nil, Nat.reduceLT, Nat.reduceEqDiff, Nat.reduceLeDiff, Bool.and_true, Nat.one_ne_zero, Nat.succ_ne_zero, reduceIte, if_false, List.getElem?_cons_zero, List.set_cons_zero, List.set_cons_succ]
        exact ⟨by rw [hall], hE⟩

set_option maxRecDepth 20000 in
theorem implNameOK_c (h : IH) (s : List UInt8) (hm : s.length ≤ 1048576) : ICalls Tryd.prog 80 [.str s] h fun r h' => r = .bool (okName s) ∧ Ext h h' := by
  refine icalls (.of ok80) (Nat.le_of_ble_eq_true rfl) ?_
  unfold c80
  by_cases c0 : s.length < 1
  · have d0 : decide ((s.length : Int) < 1) = true := decide_eq_true (by omega)
    have hs0 : s = [] := List.length_eq_zero_iff.1 (by omega)
    simp only [d0, go_sem, Hold.p, HoldK.k, HoldL.K, HoldL.body, Nat.reduceBEq, Nat.reduceAdd, List.getElem?_cons_zero, List.getElem?_cons_succ, Option.bind_some, List.map_cons, List.map_nil, Nat.zero_add, if_true, List.getD_cons_zero, List.getD_cons_succ, List.contains_cons, List.contains_nil, Nat.reduceBEq, Bool.or_true, Bool.true_or, Bool.or_false, Bool.false_or, Bool.not_true, Bool.not_false, true_and, and_true, rowA_whole, push_n, set_n, push_obj, set_obj, set_push, set_push_ne, set_set, Nat.add_assoc, Nat.left_eq_add, Nat.add_eq_left, Nat.add_left_cancel_iff, Nat.reduceEqDiff, stO_1s, stO_ws, boxA_s, one_bool, one_int, one_str, one_ptr, one_nilptr, one_slice, one_eslice, one_nilslice, one_func, one_iface, one_niliface, List.all_cons, List.all_nil, List.length_cons, List.length_nil, Nat.reduceLT, Nat.reduceEqDiff, Nat.reduceLeDiff, Bool.and_true, Nat.one_ne_zero, Nat.succ_ne_zero, reduceIte, if_false, List.getElem?_cons_zero, List.set_cons_zero, List.set_cons_succ]
    exact ⟨by rw [hs0]; rfl, Ext.refl _⟩
  · have d0 : decide ((s.length : Int) < 1) = false := decide_eq_false (by omega)
    by_cases c1 : 63 < s.length
    · have d1 : decide (63 < (s.length : Int)) = true := decide_eq_true (by omega)
      simp only [d0, d1, go_sem, Hold.p, HoldK.k, HoldL.K, HoldL.body, Nat.reduceBEq, Nat.reduceAdd, List.getElem?_cons_zero, List.getElem?_cons_succ, Option.bind_some, List.map_cons, List.map_nil, Nat.zero_add, if_true, List.getD_cons_zero, List.getD_cons_succ, List.contains_cons, List.contains_nil, Nat.reduceBEq, Bool.or_true, Bool.true_or, Bool.or_false, Bool.false_or, Bool.not_true, Bool.not_false, true_and, and_true, rowA_whole, push_n, set_n, push_obj, set_obj, set_push, set_push_ne, set_set, Nat.add_assoc, Nat.left_eq_add, Nat.add_eq_left, Nat.add_left_cancel_iff, Nat.reduceEqDiff, stO_1s, stO_ws, boxA_s, one_bool, one_int, one_str, one_ptr, one_nilptr, one_slice, one_eslice, one_nilslice, one_func, one_iface, one_niliface, List.all_cons, List.all_nil, List.length_cons, List.length_nil, Nat.reduceLT, Nat.reduceEqDiff, Nat.reduceLeDiff, Bool.and_true, Nat.one_ne_zero, Nat.succ_ne_zero, reduceIte, if_false, List.getElem?_cons_zero, List.set_cons_zero, List.set_cons_succ]
      have : decide (s.length ≤ 63) = false := decide_eq_false (by omega)
      exact ⟨by unfold okName; rw [this]; rfl, Ext.refl _⟩
    · have d1 : decide (63 < (s.length : Int)) = false := decide_eq_false (by omega)
      have hdef : okName s = (cutAt 46 s).all okLabel := by
        have : decide (s.length ≤ 63) = true := decide_eq_true (by omega)
        unfold okName; rw [this]; rfl
      rw [hdef]
      simp only [d0, d1, go_sem, Hold.p, HoldK.k, HoldL.K, HoldL.body, Nat.reduceBEq, Nat.reduceAdd, List.getElem?_cons_zero, List.getElem?_cons_succ, Option.bind_some, List.map_cons, List.map_nil, Nat.zero_add, if_true, List.getD_cons_zero, List.getD_cons_succ, List.contains_cons, List.contains_nil, Nat.reduceBEq, Bool.or_true, Bool.true_or, Bool.or_false, Bool.false_or, Bool.not_true, Bool.not_false, true_and, and_true, rowA_whole, push_n, set_n, push_obj, set_obj, set_push, set_push_ne, set_set, Nat.add_assoc, Nat.left_eq_add, Nat.add_eq_left, Nat.add_left_cancel_iff, Nat.reduceEqDiff, stO_1s, stO_ws, boxA_s, one_bool, one_int, one_str, one_ptr, one_nilptr, one_slice, one_eslice, one_nilslice, one_func, one_iface, one_niliface, List.all_cons, List.all_nil, List.length_cons, List.length_nil, Nat.reduceLT, Nat.reduceEqDiff, Nat.reduceLeDiff, Bool.and_true, Nat.one_ne_zero, Nat.succ_ne_zero, reduceIte, if_false, List.getElem?_cons_zero, List.set_cons_zero, List.set_cons_succ]
      refine callA_of (split_c h s 46 hm) ?_
      rintro v h1 ⟨hs, hE⟩
      have hlen := hs.lenF
      rw [List.length_map] at hlen
      simp only [hlen, go_sem, Hold.p, HoldK.k, HoldL.K, HoldL.body, Nat.reduceBEq, Nat.reduceAdd, List.getElem?_cons_zero, List.getElem?_cons_succ, Option.bind_some, List.map_cons, List.map_nil, Nat.zero_add, if_true, List.getD_cons_zero, List.getD_cons_succ, List.contains_cons, List.contains_nil, Nat.reduceBEq, Bool.or_true, Bool.true_or, Bool.or_false, Bool.false_or, Bool.not_true, Bool.not_false, true_and, and_true, rowA_whole, push_n, set_n, push_obj, set_obj, set_push, set_push_ne, set_set, Nat.add_assoc, Nat.left_eq_add, Nat.add_eq_left, Nat.add_left_cancel_iff, Nat.reduceEqDiff, stO_1s, stO_ws, boxA_s, one_bool, one_int, one_str, one_ptr, one_nilptr, one_slice, one_eslice, one_nilslice, one_func, one_iface, one_niliface, List.all_cons, List.all_nil, List.length_cons, List.length_nil, Nat.reduceLT, Nat.reduceEqDiff, Nat.reduceLeDiff, Bool.and_true, Nat.one_ne_zero, Nat.succ_ne_zero, reduceIte, if_false, List.getElem?_cons_zero, List.set_cons_zero, List.set_cons_succ]
      have hpl : (cutAt 46 s).length ≤ 1048577 := by rw [cutAt_len]; have := count_le_len 46 s; omega
      generalize cutAt 46 s = parts at hs hlen hpl
      refine loop_at (fun n e h' => ∃ k, n = parts.length - k ∧ k ≤ parts.length ∧ e 16 = v ∧ e 17 = .int .i64 (parts.length : Nat) ∧ e 18 = .int .i64 (k : Nat) ∧ Ext h1 h' ∧ (parts.take k).all okLabel = true) parts.length ?_ ?_
      · refine ⟨0, by omega, by omega, ?_⟩
        simp only [go_sem, Hold.p, HoldK.k, HoldL.K, HoldL.body, Nat.reduceBEq, Nat.reduceAdd, List.getElem?_cons_zero, List.getElem?_cons_succ, Option.bind_some, List.map_cons, List.map_nil, Nat.zero_add, if_true, List.getD_cons_zero, List.getD_cons_succ, List.contains_cons, List.contains_nil, Nat.reduceBEq, Bool.or_true, Bool.true_or, Bool.or_false, Bool.false_or, Bool.not_true, Bool.not_false, true_and, and_true, rowA_whole, push_n, set_n, push_obj, set_obj, set_push, set_push_ne, set_set, Nat.add_assoc, Nat.left_eq_add, Nat.add_eq_left, Nat.add_left_cancel_iff, Nat.reduceEqDiff, stO_1s, stO_ws, boxA_s, one_bool, one_int, one_str, one_ptr, one_nilptr, one_slice, one_eslice, one_nilslice, one_func, one_iface, one_niliface, List.all_cons, List.all_nil, List.length_cons, List.length_nil, Nat.reduceLT, Nat.reduceEqDiff, Nat.reduceLeDiff, Bool.and_true, Nat.one_ne_zero, Nat.succ_ne_zero, reduceIte, if_false, List.getElem?_cons_zero, List.set_cons_zero, List.set_cons_succ]
        exact ⟨rfl, Ext.refl _, by simp⟩
      · rintro n e h' ⟨k, rfl, hk, i16, i17, i18, E, hall⟩
        simp only [i16, i17, i18, go_sem, Hold.p, HoldK.k, HoldL.K, HoldL.body, Nat.reduceBEq, Nat.reduceAdd, List.getElem?_cons_zero, List.getElem?_cons_succ, Option.bind_some, List.map_cons, List.map_nil, Nat.zero_add, if_true, List.getD_cons_zero, List.getD_cons_succ, List.contains_cons, List.contains_nil, Nat.reduceBEq, Bool.or_true, Bool.true_or, Bool.or_false, Bool.false_or, Bool.not_true, Bool.not_false, true_and, and_true, rowA_whole, push_n, set_n, push_obj, set_obj, set_push, set_push_ne, set_set, Nat.add_assoc, Nat.left_eq_add, Nat.add_eq_left, Nat.add_left_cancel_iff, Nat.reduceEqDiff, stO_1s, stO_ws, boxA_s, one_bool, one_int, one_str, one_ptr, one_nilptr, one_slice, one_eslice, one_nilslice, one_func, one_iface, one_niliface, List.all_cons, List.all_nil, List.length_cons, List.length_nil, Nat.reduceLT, Nat.reduceEqDiff, Nat.reduceLeDiff, Bool.and_true, Nat.one_ne_zero, Nat.succ_ne_zero, reduceIte, if_false, List.getElem?_cons_zero, List.set_cons_zero, List.set_cons_succ]
        refine test_dec (fun hlt => ?_) (fun hlt => ?_)
        · have hlt' : k < parts.length := by omega
          have hkp : parts[k]? = some parts[k] := List.getElem?_eq_getElem hlt'
          generalize parts[k] = p at hkp
          obtain ⟨l, j, hia, hll, hrow⟩ := (hs.ext E).at (m := k) (row := sRow p) (by rw [List.getElem?_map, hkp]; rfl) .i64
          have hc := cellO_row hrow
          unfold sRow at hc
          by_cases c2 : p.length < 1
          · have d2 : decide ((p.length : Int) < 1) = true := decide_eq_true (by omega)
            simp only [i16, i17, i18, hia, hc, d2, go_sem, Hold.p, HoldK.k, HoldL.K, HoldL.body, Nat.reduceBEq, Nat.reduceAdd, List.getElem?_cons_zero, List.getElem?_cons_succ, Option.bind_some, List.map_cons, List.map_nil, Nat.zero_add, if_true, List.getD_cons_zero, List.getD_cons_succ, List.contains_cons, List.contains_nil, Nat.reduceBEq, Bool.or_true, Bool.true_or, Bool.or_false, Bool.false_or, Bool.not_true, Bool.not_false, true_and, and_true, rowA_whole, push_n, set_n, push_obj, set_obj, set_push, set_push_ne, set_set, Nat.add_assoc, Nat.left_eq_add, Nat.add_eq_left, Nat.add_left_cancel_iff, Nat.reduceEqDiff, stO_1s, stO_ws, boxA_s, one_bool, one_int, one_str, one_ptr, one_nilptr, one_slice, one_eslice, one_nilslice, one_func, one_iface, one_niliface, List.all_cons, List.all_nil, List.length_cons, List.length_nil, Nat.reduceLT, Nat.reduceEqDiff, Nat.reduceLeDiff, Bool.and_true, Nat.one_ne_zero, Nat.succ_ne_zero, reduceIte, if_false, List.getElem?_cons_zero, List.set_cons_zero, List.set_cons_succ]
            exact ⟨by rw [not_all hkp (label_short (.inl c2))], hE.trans E⟩
          · have d2 : decide ((p.length : Int) < 1) = false := decide_eq_false (by omega)
            by_cases c3 : 20 < p.length
            · have d3 : decide (20 < (p.length : Int)) = true := decide_eq_true (by omega)
              simp only [i16, i17, i18, hia, hc, d2, d3, go_sem, Hold.p, HoldK.k, HoldL.K, HoldL.body, Nat.reduceBEq, Nat.reduceAdd, List.getElem?_cons_zero, List.getElem?_cons_succ, Option.bind_some, List.map_cons, List.map_nil, Nat.zero_add, if_true, List.getD_cons_zero, List.getD_cons_succ, List.contains_cons, List.contains_nil, Nat.reduceBEq, Bool.or_true, Bool.true_or, Bool.or_false, Bool.false_or, Bool.not_true, Bool.not_false, true_and, and_true, rowA_whole, push_n, set_n, push_obj, set_obj, set_push, set_push_ne, set_set, Nat.add_assoc, Nat.left_eq_add, Nat.add_eq_left, Nat.add_left_cancel_iff, Nat.reduceEqDiff, stO_1s, stO_ws, boxA_s, one_bool, one_int, one_str, one_ptr, one_nilptr, one_slice, one_eslice, one_nilslice, one_func, one_iface, one_niliface, List.all_cons, List.all_nil, List.length_cons, List.length_nil, Nat.reduceLT, Nat.reduceEqDiff, Nat.reduceLeDiff, Bool.and_true, Nat.one_ne_zero, Nat.succ_ne_zero, reduceIte, if_false, List.getElem?_cons_zero, List.set_cons_zero, List.set_cons_succ]
              exact ⟨by rw [not_all hkp (label_short (.inr c3))], hE.trans E⟩
            · have d3 : decide (20 < (p.length : Int)) = false := decide_eq_false (by omega)
              have hlab := label_long c2 c3
              have g0 : p[0]? = some (p.getD 0 0) := by rw [List.getD_eq_getElem?_getD, List.getElem?_eq_getElem (by omega)]; rfl
              have g1 : p[p.length - 1]? = some (p.getD (p.length - 1) 0) := by rw [List.getD_eq_getElem?_getD, List.getElem?_eq_getElem (by omega)]; rfl
              have x0 : idxSF (.str p) (.int .i64 0) = some (.int .u8 (p.getD 0 0).toNat) := by simpa using idxS_at (q := .i64) g0
              have w1 : wr .i64 ((p.length : Int) - 1) = ((p.length - 1 : Nat) : Int) := by rw [wr64 _ (by omega)]; omega
              have x1 := idxS_at (q := .i64) g1
              unfold ends at hlab
              have bad : ((!(decide (((p.getD 0 0).toNat : Int) = 45) || decide (((p.getD (p.length - 1) 0).toNat : Int) = 45))) && p.all okC) = false → parts.all okLabel = false := fun hx => not_all hkp (hlab.trans hx)
              cases d4 : decide (((p.getD 0 0).toNat : Int) = 45)
              · cases d5 : decide (((p.getD (p.length - 1) 0).toNat : Int) = 45)
                · rw [d4, d5] at hlab bad
                  have hpne : p ≠ [] := fun h0 => c2 (by rw [h0]; decide)
                  simp only [i16, i17, i18, hia, hc, d2, d3, x0, w1, x1, d4, d5, go_sem, Hold.p, HoldK.k, HoldL.K, HoldL.body, Nat.reduceBEq, Nat.reduceAdd, List.getElem?_cons_zero, List.getElem?_cons_succ, Option.bind_some, List.map_cons, List.map_nil, Nat.zero_add, if_true, List.getD_cons_zero, List.getD_cons_succ, List.contains_cons, List.contains_nil, Nat.reduceBEq, Bool.or_true, Bool.true_or, Bool.or_false, Bool.false_or, Bool.not_true, Bool.not_false, true_and, and_true, rowA_whole, push_n, set_n, push_obj, set_obj, set_push, set_push_ne, set_set, Nat.add_assoc, Nat.left_eq_add, Nat.add_eq_left, Nat.add_left_cancel_iff, Nat.reduceEqDiff, stO_1s, stO_ws, boxA_s, one_bool, one_int, one_str, one_ptr, one_nilptr, one_slice, one_eslice, one_nilslice, one_func, one_iface, one_niliface, List.all_cons, List.all_nil, List.length_cons, List.length_nil, Nat.reduceLT, Nat.reduceEqDiff, Nat.reduceLeDiff, Bool.and_true, Nat.one_ne_zero, Nat.succ_ne_zero, reduceIte, if_false, List.getElem?_cons_zero, List.set_cons_zero, List.set_cons_succ]
                  unfold s2bA
                  simp only [if_neg hpne]
                  refine ⟨by omega, ?_⟩
                  simp only [i16, i17, i18, go_sem, Hold.p, HoldK.k, HoldL.K, HoldL.body, Nat.reduceBEq, Nat.reduceAdd, List.getElem?_cons_zero, List.getElem?_cons_succ, Option.bind_some, List.map_cons, List.map_nil, Nat.zero_add, if_true, List.getD_cons_zero, List.getD_cons_succ, List.contains_cons, List.contains_nil, Nat.reduceBEq, Bool.or_true, Bool.true_or, Bool.or_false, Bool.false_or, Bool.not_true, Bool.not_false, true_and, and_true, rowA_whole, push_n, set_n, push_obj, set_obj, set_push, set_push_ne, set_set, Nat.add_assoc, Nat.left_eq_add, Nat.add_eq_left, Nat.add_left_cancel_iff, Nat.reduceEqDiff, stO_1s, stO_ws, boxA_s, one_bool, one_int, one_str, one_ptr, one_nilptr, one_slice, one_eslice, one_nilslice, one_func, one_iface, one_niliface, List.all_cons, List.all_nil, List.length_cons, List.length_nil, Nat.reduceLT, Nat.reduceEqDiff, Nat.reduceLeDiff, Bool.and_true, Nat.one_ne_zero, Nat.succ_ne_zero, reduceIte, if_false, List.getElem?_cons_zero, List.set_cons_zero, List.set_cons_succ]
                  generalize hq_g0 : IH.push h' (IObj.rows (strRows p) 5 1 false) = g0
                  have e_g0 : Ext h' g0 := by rw [← hq_g0]; exact (Ext.refl _).push _
                  have l_g0 : g0.n = h'.n + 1 := by rw [← hq_g0]; rfl
                  have ba : At g0 h'.n (IObj.rows (strRows p) 5 1 false) := by rw [← hq_g0]; exact At.new _ _
                  clear hq_g0
                  have hsl : SlR g0 1 (.slice h'.n 0 p.length) (strRows p) := SlR.whole ba.eq (by simp [strRows]) ba.lt
                  refine loop_at (fun n e g => ∃ i, n = p.length - i ∧ i ≤ p.length ∧ e 16 = v ∧ e 17 = .int .i64 (parts.length : Nat) ∧ e 18 = .int .i64 (k : Nat) ∧ e 44 = .slice h'.n 0 p.length ∧ e 45 = .int .i64 (p.length : Nat) ∧ e 46 = .int .i64 (i : Nat) ∧ g = g0 ∧ (p.take i).all okC = true) p.length ?_ ?_
                  · refine ⟨0, by omega, by omega, ?_⟩
                    simp only [i16, i17, i18, go_sem, Hold.p, HoldK.k, HoldL.K, HoldL.body, Nat.reduceBEq, Nat.reduceAdd, List.getElem?_cons_zero, List.getElem?_cons_succ, Option.bind_some, List.map_cons, List.map_nil, Nat.zero_add, if_true, List.getD_cons_zero, List.getD_cons_succ, List.contains_cons, List.contains_nil, Nat.reduceBEq, Bool.or_true, Bool.true_or, Bool.or_false, Bool.false_or, Bool.not_true, Bool.not_false, true_and, and_true, rowA_whole, push_n, set_n, push_obj, set_obj, set_push, set_push_ne, set_set, Nat.add_assoc, Nat.left_eq_add, Nat.add_eq_left, Nat.add_left_cancel_iff, Nat.reduceEqDiff, stO_1s, stO_ws, boxA_s, one_bool, one_int, one_str, one_ptr, one_nilptr, one_slice, one_eslice, one_nilslice, one_func, one_iface, one_niliface, List.all_cons, List.all_nil, List.length_cons, List.length_nil, Nat.reduceLT, Nat.reduceEqDiff, Nat.reduceLeDiff, Bool.and_true, Nat.one_ne_zero, Nat.succ_ne_zero, reduceIte, if_false, List.getElem?_cons_zero, List.set_cons_zero, List.set_cons_succ]
                    exact ⟨rfl, by simp⟩
                  · rintro n e g ⟨i, rfl, hi, i16, i17, i18, i44, i45, i46, rfl, hal2⟩
                    simp only [i16, i17, i18, i44, i45, i46, go_sem, Hold.p, HoldK.k, HoldL.K, HoldL.body, Nat.reduceBEq, Nat.reduceAdd, List.getElem?_cons_zero, List.getElem?_cons_succ, Option.bind_some, List.map_cons, List.map_nil, Nat.zero_add, if_true, List.getD_cons_zero, List.getD_cons_succ, List.contains_cons, List.contains_nil, Nat.reduceBEq, Bool.or_true, Bool.true_or, Bool.or_false, Bool.false_or, Bool.not_true, Bool.not_false, true_and, and_true, rowA_whole, push_n, set_n, push_obj, set_obj, set_push, set_push_ne, set_set, Nat.add_assoc, Nat.left_eq_add, Nat.add_eq_left, Nat.add_left_cancel_iff, Nat.reduceEqDiff, stO_1s, stO_ws, boxA_s, one_bool, one_int, one_str, one_ptr, one_nilptr, one_slice, one_eslice, one_nilslice, one_func, one_iface, one_niliface, List.all_cons, List.all_nil, List.length_cons, List.length_nil, Nat.reduceLT, Nat.reduceEqDiff, Nat.reduceLeDiff, Bool.and_true, Nat.one_ne_zero, Nat.succ_ne_zero, reduceIte, if_false, List.getElem?_cons_zero, List.set_cons_zero, List.set_cons_succ]
                    refine test_dec (fun hlt2 => ?_) (fun hlt2 => ?_)
                    · have hlt2' : i < p.length := by omega
                      have hip : p[i]? = some p[i] := List.getElem?_eq_getElem hlt2'
                      generalize p[i] = b at hip
                      obtain ⟨l2, j2, hia2, hll2, hrow2⟩ := hsl.at (m := i) (row := [.int .u8 b.toNat]) (by unfold strRows; rw [List.getElem?_map, hip]; rfl) .i64
                      have hc2 := cellO_row hrow2
                      rcases class6 b with hc | hc | hc | hc | hc | hc
                      · have q1 : decide (97 ≤ (b.toNat : Int)) = false := decide_eq_false (by omega)
                        have q2 : decide ((b.toNat : Int) ≤ 122) = true := decide_eq_true (by omega)
                        have q3 : decide (48 ≤ (b.toNat : Int)) = false := decide_eq_false (by omega)
                        have q4 : decide ((b.toNat : Int) ≤ 57) = true := decide_eq_true (by omega)
                        have q5 : decide ((b.toNat : Int) = 45) = true := decide_eq_true (by omega)
                        have hok : okC b = true := by unfold okC; simp; omega
                        simp only [i16, i17, i18, i44, i45, i46, hia2, hc2, q1, q2, q3, q4, q5, go_sem, Hold.p, HoldK.k, HoldL.K, HoldL.body, Nat.reduceBEq, Nat.reduceAdd, List.getElem?_cons_zero, List.getElem?_cons_succ, Option.bind_some, List.map_cons, List.map_nil, Nat.zero_add, if_true, List.getD_cons_zero, List.getD_cons_succ, List.contains_cons, List.contains_nil, Nat.reduceBEq, Bool.or_true, Bool.true_or, Bool.or_false, Bool.false_or, Bool.not_true, Bool.not_false, true_and, and_true, rowA_whole, push_n, set_n, push_obj, set_obj, set_push, set_push_ne, set_set, Nat.add_assoc, Nat.left_eq_add, Nat.add_eq_left, Nat.add_left_cancel_iff, Nat.reduceEqDiff, stO_1s, stO_ws, boxA_s, one_bool, one_int, one_str, one_ptr, one_nilptr, one_slice, one_eslice, one_nilslice, one_func, one_iface, one_niliface, List.all_cons, List.all_nil, List.length_cons, List.length_nil, Nat.reduceLT, Nat.reduceEqDiff, Nat.reduceLeDiff, Bool.and_true, Nat.one_ne_zero, Nat.succ_ne_zero, reduceIte, if_false, List.getElem?_cons_zero, List.set_cons_zero, List.set_cons_succ]
                        exact ⟨_, by omega, i + 1, rfl, by omega, wr64_succ i (by omega), by rw [take_all hip hal2, hok]⟩
                      · have q1 : decide (97 ≤ (b.toNat : Int)) = false := decide_eq_false (by omega)
                        have q2 : decide ((b.toNat : Int) ≤ 122) = true := decide_eq_true (by omega)
                        have q3 : decide (48 ≤ (b.toNat : Int)) = false := decide_eq_false (by omega)
                        have q4 : decide ((b.toNat : Int) ≤ 57) = true := decide_eq_true (by omega)
                        have q5 : decide ((b.toNat : Int) = 45) = false := decide_eq_false (by omega)
                        have hok : okC b = false := by unfold okC; simp; omega
                        simp only [i16, i17, i18, i44, i45, i46, hia2, hc2, q1, q2, q3, q4, q5, go_sem, Hold.p, HoldK.k, HoldL.K, HoldL.body, Nat.reduceBEq, Nat.reduceAdd, List.getElem?_cons_zero, List.getElem?_cons_succ, Option.bind_some, List.map_cons, List.map_nil, Nat.zero_add, if_true, List.getD_cons_zero, List.getD_cons_succ, List.contains_cons, List.contains_nil, Nat.reduceBEq, Bool.or_true, Bool.true_or, Bool.or_false, Bool.false_or, Bool.not_true, Bool.not_false, true_and, and_true, rowA_whole, push_n, set_n, push_obj, set_obj, set_push, set_push_ne, set_set, Nat.add_assoc, Nat.left_eq_add, Nat.add_eq_left, Nat.add_left_cancel_iff, Nat.reduceEqDiff, stO_1s, stO_ws, boxA_s, one_bool, one_int, one_str, one_ptr, one_nilptr, one_slice, one_eslice, one_nilslice, one_func, one_iface, one_niliface, List.all_cons, List.all_nil, List.length_cons, List.length_nil, Nat.reduceLT, Nat.reduceEqDiff, Nat.reduceLeDiff, Bool.and_true, Nat.one_ne_zero, Nat.succ_ne_zero, reduceIte, if_false, List.getElem?_cons_zero, List.set_cons_zero, List.set_cons_succ]
                        exact ⟨by rw [bad (by rw [not_all hip hok]; rfl)], hE.trans (E.trans e_g0)⟩
                      · have q1 : decide (97 ≤ (b.toNat : Int)) = false := decide_eq_false (by omega)
                        have q2 : decide ((b.toNat : Int) ≤ 122) = true := decide_eq_true (by omega)
                        have q3 : decide (48 ≤ (b.toNat : Int)) = true := decide_eq_true (by omega)
                        have q4 : decide ((b.toNat : Int) ≤ 57) = true := decide_eq_true (by omega)
                        have q5 : decide ((b.toNat : Int) = 45) = false := decide_eq_false (by omega)
                        have hok : okC b = true := by unfold okC; simp; omega
                        simp only [i16, i17, i18, i44, i45, i46, hia2, hc2, q1, q2, q3, q4, q5, go_sem, Hold.p, HoldK.k, HoldL.K, HoldL.body, Nat.reduceBEq, Nat.reduceAdd, List.getElem?_cons_zero, List.getElem?_cons_succ, Option.bind_some, List.map_cons, List.map_nil, Nat.zero_add, if_true, List.getD_cons_zero, List.getD_cons_succ, List.contains_cons, List.contains_nil, Nat.reduceBEq, Bool.or_true, Bool.true_or, Bool.or_false, Bool.false_or, Bool.not_true, Bool.not_false, true_and, and_true, rowA_whole, push_n, set_n, push_obj, set_obj, set_push, set_push_ne, set_set, Nat.add_assoc, Nat.left_eq_add, Nat.add_eq_left, Nat.add_left_cancel_iff, Nat.reduceEqDiff, stO_1s, stO_ws, boxA_s, one_bool, one_int, one_str, one_ptr, one_nilptr, one_slice, one_eslice, one_nilslice, one_func, one_iface, one_niliface, List.all_cons, List.all_nil, List.length_cons, List.length_nil, Nat.reduceLT, Nat.reduceEqDiff, Nat.reduceLeDiff, Bool.and_true, Nat.one_ne_zero, Nat.succ_ne_zero, reduceIte, if_false, List.getElem?_cons_zero, List.set_cons_zero, List.set_cons_succ]
                        exact ⟨_, by omega, i + 1, rfl, by omega, wr64_succ i (by omega), by rw [take_all hip hal2, hok]⟩
                      · have q1 : decide (97 ≤ (b.toNat : Int)) = false := decide_eq_false (by omega)
                        have q2 : decide ((b.toNat : Int) ≤ 122) = true := decide_eq_true (by omega)
                        have q3 : decide (48 ≤ (b.toNat : Int)) = true := decide_eq_true (by omega)
                        have q4 : decide ((b.toNat : Int) ≤ 57) = false := decide_eq_false (by omega)
                        have q5 : decide ((b.toNat : Int) = 45) = false := decide_eq_false (by omega)
                        have hok : okC b = false := by unfold okC; simp; omega
                        simp only [i16, i17, i18, i44, i45, i46, hia2, hc2, q1, q2, q3, q4, q5, go_sem, Hold.p, HoldK.k, HoldL.K, HoldL.body, Nat.reduceBEq, Nat.reduceAdd, List.getElem?_cons_zero, List.getElem?_cons_succ, Option.bind_some, List.map_cons, List.map_nil, Nat.zero_add, if_true, List.getD_cons_zero, List.getD_cons_succ, List.contains_cons, List.contains_nil, Nat.reduceBEq, Bool.or_true, Bool.true_or, Bool.or_false, Bool.false_or, Bool.not_true, Bool.not_false, true_and, and_true, rowA_whole, push_n, set_n, push_obj, set_obj, set_push, set_push_ne, set_set, Nat.add_assoc, Nat.left_eq_add, Nat.add_eq_left, Nat.add_left_cancel_iff, Nat.reduceEqDiff, stO_1s, stO_ws, boxA_s, one_bool, one_int, one_str, one_ptr, one_nilptr, one_slice, one_eslice, one_nilslice, one_func, one_iface, one_niliface, List.all_cons, List.all_nil, List.length_cons, List.length_nil, Nat.reduceLT, Nat.reduceEqDiff, Nat.reduceLeDiff, Bool.and_true, Nat.one_ne_zero, Nat.succ_ne_zero, reduceIte, if_false, List.getElem?_cons_zero, List.set_cons_zero, List.set_cons_succ]
                        exact ⟨by rw [bad (by rw [not_all hip hok]; rfl)], hE.trans (E.trans e_g0)⟩
                      · have q1 : decide (97 ≤ (b.toNat : Int)) = true := decide_eq_true (by omega)
                        have q2 : decide ((b.toNat : Int) ≤ 122) = true := decide_eq_true (by omega)
                        have q3 : decide (48 ≤ (b.toNat : Int)) = true := decide_eq_true (by omega)
                        have q4 : decide ((b.toNat : Int) ≤ 57) = false := decide_eq_false (by omega)
                        have q5 : decide ((b.toNat : Int) = 45) = false := decide_eq_false (by omega)
                        have hok : okC b = true := by unfold okC; simp; omega
                        simp only [i16, i17, i18, i44, i45, i46, hia2, hc2, q1, q2, q3, q4, q5, go_sem, Hold.p, HoldK.k, HoldL.K, HoldL.body, Nat.reduceBEq, Nat.reduceAdd, List.getElem?_cons_zero, List.getElem?_cons_succ, Option.bind_some, List.map_cons, List.map_nil, Nat.zero_add, if_true, List.getD_cons_zero, List.getD_cons_succ, List.contains_cons, List.contains_nil, Nat.reduceBEq, Bool.or_true, Bool.true_or, Bool.or_false, Bool.false_or, Bool.not_true, Bool.not_false, true_and, and_true, rowA_whole, push_n, set_n, push_obj, set_obj, set_push, set_push_ne, set_set, Nat.add_assoc, Nat.left_eq_add, Nat.add_eq_left, Nat.add_left_cancel_iff, Nat.reduceEqDiff, stO_1s, stO_ws, boxA_s, one_bool, one_int, one_str, one_ptr, one_nilptr, one_slice, one_eslice, one_nilslice, one_func, one_iface, one_niliface, List.all_cons, List.all_nil, List.length_cons, List.length_nil, Nat.reduceLT, Nat.reduceEqDiff, Nat.reduceLeDiff, Bool.and_true, Nat.one_ne_zero, Nat.succ_ne_zero, reduceIte, if_false, List.getElem?_cons_zero, List.set_cons_zero, List.set_cons_succ]
                        exact ⟨_, by omega, i + 1, rfl, by omega, wr64_succ i (by omega), by rw [take_all hip hal2, hok]⟩
                      · have q1 : decide (97 ≤ (b.toNat : Int)) = true := decide_eq_true (by omega)
                        have q2 : decide ((b.toNat : Int) ≤ 122) = false := decide_eq_false (by omega)
                        have q3 : decide (48 ≤ (b.toNat : Int)) = true := decide_eq_true (by omega)
                        have q4 : decide ((b.toNat : Int) ≤ 57) = false := decide_eq_false (by omega)
                        have q5 : decide ((b.toNat : Int) = 45) = false := decide_eq_false (by omega)
                        have hok : okC b = false := by unfold okC; simp; omega
                        simp only [i16, i17, i18, i44, i45, i46, hia2, hc2, q1, q2, q3, q4, q5, go_sem, Hold.p, HoldK.k, HoldL.K, HoldL.body, Nat.reduceBEq, Nat.reduceAdd, List.getElem?_cons_zero, List.getElem?_cons_succ, Option.bind_some, List.map_cons, List.map_nil, Nat.zero_add, if_true, List.getD_cons_zero, List.getD_cons_succ, List.contains_cons, List.contains_nil, Nat.reduceBEq, Bool.or_true, Bool.true_or, Bool.or_false, Bool.false_or, Bool.not_true, Bool.not_false, true_and, and_true, rowA_whole, push_n, set_n, push_obj, set_obj, set_push, set_push_ne, set_set, Nat.add_assoc, Nat.left_eq_add, Nat.add_eq_left, Nat.add_left_cancel_iff, Nat.reduceEqDiff, stO_1s, stO_ws, boxA_s, one_bool, one_int, one_str, one_ptr, one_nilptr, one_slice, one_eslice, one_nilslice, one_func, one_iface, one_niliface, List.all_cons, List.all_nil, List.length_cons, List.length_nil, Nat.reduceLT, Nat.reduceEqDiff, Nat.reduceLeDiff, Bool.and_true, Nat.one_ne_zero, Nat.succ_ne_zero, reduceIte, if_false, List.getElem?_cons_zero, List.set_cons_zero, List.set_cons_succ]
                        exact ⟨by rw [bad (by rw [not_all hip hok]; rfl)], hE.trans (E.trans e_g0)⟩
                    · obtain rfl : i = p.length := by omega
                      rw [List.take_length] at hal2
                      rw [hal2] at hlab
                      simp only [i16, i17, i18, go_sem, Hold.p, HoldK.k, HoldL.K, HoldL.body, Nat.reduceBEq, Nat.reduceAdd, List.getElem?_cons_zero, List.getElem?_cons_succ, Option.bind_some, List.map_cons, List.map_nil, Nat.zero_add, if_true, List.getD_cons_zero, List.getD_cons_succ, List.contains_cons, List.contains_nil, Nat.reduceBEq, Bool.or_true, Bool.true_or, Bool.or_false, Bool.false_or, Bool.not_true, Bool.not_false, true_and, and_true, rowA_whole, push_n, set_n, push_obj, set_obj, set_push, set_push_ne, set_set, Nat.add_assoc, Nat.left_eq_add, Nat.add_eq_left, Nat.add_left_cancel_iff, Nat.reduceEqDiff, stO_1s, stO_ws, boxA_s, one_bool, one_int, one_str, one_ptr, one_nilptr, one_slice, one_eslice, one_nilslice, one_func, one_iface, one_niliface, List.all_cons, List.all_nil, List.length_cons, List.length_nil, Nat.reduceLT, Nat.reduceEqDiff, Nat.reduceLeDiff, Bool.and_true, Nat.one_ne_zero, Nat.succ_ne_zero, reduceIte, if_false, List.getElem?_cons_zero, List.set_cons_zero, List.set_cons_succ]
                      exact ⟨_, by omega, k + 1, rfl, by omega, wr64_succ k (by omega), E.trans e_g0, by rw [take_all hkp hall, hlab]; rfl⟩
                · simp only [i16, i17, i18, hia, hc, d2, d3, x0, w1, x1, d4, d5, go_sem, Hold.p, HoldK.k, HoldL.K, HoldL.body, Nat.reduceBEq, Nat.reduceAdd, List.getElem?_cons_zero, List.getElem?_cons_succ, Option.bind_some, List.map_cons, List.map_nil, Nat.zero_add, if_true, List.getD_cons_zero, List.getD_cons_succ, List.contains_cons, List.contains_nil, Nat.reduceBEq, Bool.or_true, Bool.true_or, Bool.or_false, Bool.false_or, Bool.not_true, Bool.not_false, true_and, and_true, rowA_whole, push_n, set_n, push_obj, set_obj, set_push, set_push_ne, set_set, Nat.add_assoc, Nat.left_eq_add, Nat.add_eq_left, Nat.add_left_cancel_iff, Nat.reduceEqDiff, stO_1s, stO_ws, boxA_s, one_bool, one_int, one_str, one_ptr, one_nilptr, one_slice, one_eslice, one_nilslice, one_func, one_iface, one_niliface, List.all_cons, List.all_nil, List.length_cons, List.length_nil, Nat.reduceLT, Nat.reduceEqDiff, Nat.reduceLeDiff, Bool.and_true, Nat.one_ne_zero, Nat.succ_ne_zero, reduceIte, if_false, List.getElem?_cons_zero, List.set_cons_zero, List.set_cons_succ]
                  exact ⟨by rw [bad (by rw [d4, d5]; rfl)], hE.trans E⟩
              · simp only [i16, i17, i18, hia, hc, d2, d3, x0, w1, x1, d4, go_sem, Hold.p, HoldK.k, HoldL.K, HoldL.body, Nat.reduceBEq, Nat.reduceAdd, List.getElem?_cons_zero, List.getElem?_cons_succ, Option.bind_some, List.map_cons, List.map_nil, Nat.zero_add, if_true, List.getD_cons_zero, List.getD_cons_succ, List.contains_cons, List.contains_nil, Nat.reduceBEq, Bool.or_true, Bool.true_or, Bool.or_false, Bool.false_or, Bool.not_true, Bool.not_false, true_and, and_true, rowA_whole, push_n, set_n, push_obj, set_obj, set_push, set_push_ne, set_set, Nat.add_assoc, Nat.left_eq_add, Nat.add_eq_left, Nat.add_left_cancel_iff, Nat.reduceEqDiff, stO_1s, stO_ws, boxA_s, one_bool, one_int, one_str, one_ptr, one_nilptr, one_slice, one_eslice, one_nilslice, one_func, one_iface, one_niliface, List.all_cons, List.all_nil, List.length_cons, List.length_nil, Nat.reduceLT, Nat.reduceEqDiff, Nat.reduceLeDiff, Bool.and_true, Nat.one_ne_zero, Nat.succ_ne_zero, reduceIte, if_false, List.getElem?_cons_zero, List.set_cons_zero, List.set_cons_succ]
                exact ⟨by rw [bad (by rw [d4]; rfl)], hE.trans E⟩
        · obtain rfl : k = parts.length := by omega
          rw [List.take_length] at hall
          simp only [go_sem, Hold.p, HoldK.k, HoldL.K, HoldL.body, Nat.reduceBEq, Nat.reduceAdd, List.getElem?_cons_zero, List.getElem?_cons_succ, Option.bind_some, List.map_cons, List.map_nil, Nat.zero_add, if_true, List.getD_cons_zero, List.getD_cons_succ, List.contains_cons, List.contains_nil, Nat.reduceBEq, Bool.or_true, Bool.true_or, Bool.or_false, Bool.false_or, Bool.not_true, Bool.not_false, true_and, and_true, rowA_whole, push_n, set_n, push_obj, set_obj, set_push, set_push_ne, set_set, Nat.add_assoc, Nat.left_eq_add, Nat.add_eq_left, Nat.add_left_cancel_iff, Nat.reduceEqDiff, stO_1s, stO_ws, boxA_s, one_bool, one_int, one_str, one_ptr, one_nilptr, one_slice, one_eslice, one_nilslice, one_func, one_iface, one_niliface, List.all_cons, List.all_nil, List.length_cons, List.length_nil, Nat.reduceLT, Nat.reduceEqDiff, Nat.reduceLeDiff, Bool.and_true, Nat.one_ne_zero, Nat.succ_ne_zero, reduceIte, if_false, List.getElem?_cons_zero, List.set_cons_zero, List.set_cons_succ]
          exact ⟨by rw [hall], hE.trans E⟩

end Go.Proofs.YtdpaehdolhdjdaaDoor


namespace Go.Proofs.YtdpaehdolhdjdaaDoor
open Go Go.IW

/-! Bytes. -/
theorem wr_u8 (x : Int) : wr .u8 x = ((UInt8.ofNat (x % 256).toNat).toNat : Int) := by
  have h1 : wr .u8 x = x % 256 := by unfold wr; rw [IntKind.wrap_u8]
  rw [h1]
  have h2 : (x % 256).toNat < 256 := by omega
  simp [UInt8.toNat_ofNat']
  omega
/-- The byte of a number at a place. -/
def byteAt (v : Int) (i : Nat) : UInt8 := UInt8.ofNat (v.fdiv (2 ^ (8 * i)) % 256).toNat
def beB : Nat → Int → List UInt8
  | 0, _ => []
  | k + 1, v => byteAt v k :: beB k v
theorem beB_len : ∀ (k : Nat) (v : Int), (beB k v).length = k
  | 0, _ => rfl
  | k + 1, v => by simp [beB, beB_len k v]
theorem strRows_append (a b : List UInt8) : strRows (a ++ b) = strRows a ++ strRows b := by simp [strRows]
theorem strRows_len (a : List UInt8) : (strRows a).length = a.length := by simp [strRows]
theorem strRows_at {a : List UInt8} {k : Nat} {b : UInt8} (h : a[k]? = some b) : (strRows a)[k]? = some [.int .u8 b.toNat] := by
  unfold strRows; rw [List.getElem?_map, h]; rfl

set_option maxRecDepth 20000 in
theorem l03Put_c (h : IH) (v : Int) (w : Nat) (hw : w ≤ 8) : ICalls Tryd.prog 79 [.int .i64 v, .int .i64 w] h fun r h' => Own h.n h'.n h' 5 1 r (strRows (beB w v)) ∧ Ext h h' := by
  refine icalls (.of ok79) (Nat.le_of_ble_eq_true rfl) ?_
  unfold c79
  have w0 : wr .i64 ((w : Int) - 1) = (w : Int) - 1 := wr64 _ (by omega)
  simp only [w0, go_sem, Hold.p, HoldK.k, HoldL.K, HoldL.body, Nat.reduceBEq, Nat.reduceAdd, List.getElem?_cons_zero, List.getElem?_cons_succ, Option.bind_some, List.map_cons, List.map_nil, Nat.zero_add, if_true, List.getD_cons_zero, List.getD_cons_succ, List.contains_cons, List.contains_nil, Nat.reduceBEq, Bool.or_true, Bool.true_or, Bool.or_false, Bool.false_or, Bool.not_true, Bool.not_false, true_and, and_true, rowA_whole, push_n, set_n, push_obj, set_obj, set_push, set_push_ne, set_set, Nat.add_assoc, Nat.left_eq_add, Nat.add_eq_left, Nat.add_left_cancel_iff, Nat.reduceEqDiff, stO_1s, stO_ws, boxA_s, one_bool, one_int, one_str, one_ptr, one_nilptr, one_slice, one_eslice, one_nilslice, one_func, one_iface, one_niliface, List.all_cons, List.all_nil, List.length_cons, List.length_nil, Nat.reduceLT, Nat.reduceEqDiff, Nat.reduceLeDiff, Bool.and_true, Nat.one_ne_zero, Nat.succ_ne_zero, reduceIte, if_false, List.getElem?_cons_zero, List.set_cons_zero, List.set_cons_succ]
  refine loop_at (fun n e g => ∃ (x : IV) (lo hi : Nat) (out : List UInt8), n ≤ w ∧ e 0 = .int .i64 v ∧ e 5 = x ∧ e 6 = .int .i64 ((n : Int) - 1) ∧ Ext h g ∧ h.n ≤ lo ∧ hi ≤ g.n ∧ Own lo hi g 5 1 x (strRows out) ∧ out ++ beB n v = beB w v) w ?_ ?_
  · refine ⟨.eslice true, h.n, h.n, [], Nat.le_refl _, ?_⟩
    simp only [go_sem, Hold.p, HoldK.k, HoldL.K, HoldL.body, Nat.reduceBEq, Nat.reduceAdd, List.getElem?_cons_zero, List.getElem?_cons_succ, Option.bind_some, List.map_cons, List.map_nil, Nat.zero_add, if_true, List.getD_cons_zero, List.getD_cons_succ, List.contains_cons, List.contains_nil, Nat.reduceBEq, Bool.or_true, Bool.true_or, Bool.or_false, Bool.false_or, Bool.not_true, Bool.not_false, true_and, and_true, rowA_whole, push_n, set_n, push_obj, set_obj, set_push, set_push_ne, set_set, Nat.add_assoc, Nat.left_eq_add, Nat.add_eq_left, Nat.add_left_cancel_iff, Nat.reduceEqDiff, stO_1s, stO_ws, boxA_s, one_bool, one_int, one_str, one_ptr, one_nilptr, one_slice, one_eslice, one_nilslice, one_func, one_iface, one_niliface, List.all_cons, List.all_nil, List.length_cons, List.length_nil, Nat.reduceLT, Nat.reduceEqDiff, Nat.reduceLeDiff, Bool.and_true, Nat.one_ne_zero, Nat.succ_ne_zero, reduceIte, if_false, List.getElem?_cons_zero, List.set_cons_zero, List.set_cons_succ]
    exact ⟨Ext.refl _, Nat.le_refl _, Nat.le_refl _, Own.empty, by simp⟩
  · rintro n e g ⟨x, lo, hi, out, hn, i0, i5, i6, E, hlo, hhi, o, hout⟩
    have hle := E.le
    cases n with
    | zero =>
      have d0 : decide ((0 : Int) ≤ ((0 : Nat) : Int) - 1) = false := decide_eq_false (by omega)
      simp only [i0, i5, i6, d0, go_sem, Hold.p, HoldK.k, HoldL.K, HoldL.body, Nat.reduceBEq, Nat.reduceAdd, List.getElem?_cons_zero, List.getElem?_cons_succ, Option.bind_some, List.map_cons, List.map_nil, Nat.zero_add, if_true, List.getD_cons_zero, List.getD_cons_succ, List.contains_cons, List.contains_nil, Nat.reduceBEq, Bool.or_true, Bool.true_or, Bool.or_false, Bool.false_or, Bool.not_true, Bool.not_false, true_and, and_true, rowA_whole, push_n, set_n, push_obj, set_obj, set_push, set_push_ne, set_set, Nat.add_assoc, Nat.left_eq_add, Nat.add_eq_left, Nat.add_left_cancel_iff, Nat.reduceEqDiff, stO_1s, stO_ws, boxA_s, one_bool, one_int, one_str, one_ptr, one_nilptr, one_slice, one_eslice, one_nilslice, one_func, one_iface, one_niliface, List.all_cons, List.all_nil, List.length_cons, List.length_nil, Nat.reduceLT, Nat.reduceEqDiff, Nat.reduceLeDiff, Bool.and_true, Nat.one_ne_zero, Nat.succ_ne_zero, reduceIte, if_false, List.getElem?_cons_zero, List.set_cons_zero, List.set_cons_succ]
      have : out = beB w v := by simpa [beB] using hout
      rw [← this]
      exact ⟨o.wide hlo hhi (Nat.le_refl _), E⟩
    | succ k =>
      have d0 : decide ((0 : Int) ≤ ((k + 1 : Nat) : Int) - 1) = true := decide_eq_true (by omega)
      have e1 : ((k + 1 : Nat) : Int) - 1 = (k : Int) := by omega
      have w1 : wr .i64 (8 * (k : Int)) = ((8 * k : Nat) : Int) := by rw [wr64 _ (by omega)]; omega
      have w2 : wr .u64 (((8 * k : Nat) : Int)) = ((8 * k : Nat) : Int) := by unfold wr; rw [IntKind.wrap_u64]; omega
      have w3 := ib_shr .i64 v ((8 * k : Nat) : Int) .u64 (by omega)
      have hmin : min ((8 * k : Nat) : Int).toNat IntKind.i64.bits = 8 * k := by
        have : IntKind.i64.bits = 64 := rfl
        rw [this]; omega
      rw [hmin] at w3
      have hol : out.length ≤ 8 := by
        have := congrArg List.length hout
        rw [List.length_append, beB_len, beB_len] at this
        omega
      have w4 : wr .i64 ((k : Int) - 1) = (k : Int) - 1 := wr64 _ (by omega)
      have w5 : wr .u8 (v.fdiv (2 ^ (8 * k))) = ((byteAt v k).toNat : Int) := wr_u8 _
      rw [e1] at i6 d0
      simp only [i0, i5, i6, d0, w1, w2, w3, w5, go_sem, Hold.p, HoldK.k, HoldL.K, HoldL.body, Nat.reduceBEq, Nat.reduceAdd, List.getElem?_cons_zero, List.getElem?_cons_succ, Option.bind_some, List.map_cons, List.map_nil, Nat.zero_add, if_true, List.getD_cons_zero, List.getD_cons_succ, List.contains_cons, List.contains_nil, Nat.reduceBEq, Bool.or_true, Bool.true_or, Bool.or_false, Bool.false_or, Bool.not_true, Bool.not_false, true_and, and_true, rowA_whole, push_n, set_n, push_obj, set_obj, set_push, set_push_ne, set_set, Nat.add_assoc, Nat.left_eq_add, Nat.add_eq_left, Nat.add_left_cancel_iff, Nat.reduceEqDiff, stO_1s, stO_ws, boxA_s, one_bool, one_int, one_str, one_ptr, one_nilptr, one_slice, one_eslice, one_nilslice, one_func, one_iface, one_niliface, List.all_cons, List.all_nil, List.length_cons, List.length_nil, Nat.reduceLT, Nat.reduceEqDiff, Nat.reduceLeDiff, Bool.and_true, Nat.one_ne_zero, Nat.succ_ne_zero, reduceIte, if_false, List.getElem?_cons_zero, List.set_cons_zero, List.set_cons_succ]
      generalize hq_g1 : IH.push g (IObj.rows [[.int .u8 (byteAt v k).toNat]] 5 1 false) = g1
      have e_g1 : Ext g g1 := by rw [← hq_g1]; exact (Ext.refl _).push _
      have l_g1 : g1.n = g.n + 1 := by rw [← hq_g1]; rfl
      have ba : At g1 g.n (IObj.rows [[.int .u8 (byteAt v k).toNat]] 5 1 false) := by rw [← hq_g1]; exact At.new _ _
      clear hq_g1
      have o := o.ext e_g1
      have E := E.ext e_g1
      refine o.app (by simp) (by rw [strRows_len]; simp; omega) ?_
      intro v6 h6 o6 t6 n6 v6o v6c
      have E := E.turn o (by omega) t6
      have le_t6 := t6.le
      simp only [i0, i5, i6, w4, go_sem, Hold.p, HoldK.k, HoldL.K, HoldL.body, Nat.reduceBEq, Nat.reduceAdd, List.getElem?_cons_zero, List.getElem?_cons_succ, Option.bind_some, List.map_cons, List.map_nil, Nat.zero_add, if_true, List.getD_cons_zero, List.getD_cons_succ, List.contains_cons, List.contains_nil, Nat.reduceBEq, Bool.or_true, Bool.true_or, Bool.or_false, Bool.false_or, Bool.not_true, Bool.not_false, true_and, and_true, rowA_whole, push_n, set_n, push_obj, set_obj, set_push, set_push_ne, set_set, Nat.add_assoc, Nat.left_eq_add, Nat.add_eq_left, Nat.add_left_cancel_iff, Nat.reduceEqDiff, stO_1s, stO_ws, boxA_s, one_bool, one_int, one_str, one_ptr, one_nilptr, one_slice, one_eslice, one_nilslice, one_func, one_iface, one_niliface, List.all_cons, List.all_nil, List.length_cons, List.length_nil, Nat.reduceLT, Nat.reduceEqDiff, Nat.reduceLeDiff, Bool.and_true, Nat.one_ne_zero, Nat.succ_ne_zero, reduceIte, if_false, List.getElem?_cons_zero, List.set_cons_zero, List.set_cons_succ]
      refine ⟨k, Nat.lt_succ_self _, v6, g1.n, g1.n + 1, out ++ [byteAt v k], by omega, rfl, rfl, E, by omega, by omega, ?_, ?_⟩
      · rw [strRows_append]; exact o6
      · rw [← hout]; simp [beB]

set_option maxRecDepth 20000 in
theorem put_c {lo hi : Nat} (hB h : IH) (E : Ext hB h) (x : IV) (bs : List UInt8) (v : Int) (w : Nat) (hw : w ≤ 8) (hv : 0 ≤ v ∧ v ≤ 9223372036854775807) (hbl : bs.length ≤ 16777216) (hlo : hB.n ≤ lo) (o : Own lo hi h 5 1 x (strRows bs)) (hhi : hi ≤ h.n) :
    ICalls Tryd.prog 81 [x, .int .i64 w, .int .i64 v] h fun r h' => Own hB.n h'.n h' 5 1 r (strRows (bs ++ beB w v)) ∧ Ext hB h' := by
  refine icalls (.of ok81) (Nat.le_of_ble_eq_true rfl) ?_
  unfold c81
  have w0 : wr .i64 ((w : Int) - 1) = (w : Int) - 1 := wr64 _ (by omega)
  simp only [w0, go_sem, Hold.p, HoldK.k, HoldL.K, HoldL.body, Nat.reduceBEq, Nat.reduceAdd, List.getElem?_cons_zero, List.getElem?_cons_succ, Option.bind_some, List.map_cons, List.map_nil, Nat.zero_add, if_true, List.getD_cons_zero, List.getD_cons_succ, List.contains_cons, List.contains_nil, Nat.reduceBEq, Bool.or_true, Bool.true_or, Bool.or_false, Bool.false_or, Bool.not_true, Bool.not_false, true_and, and_true, rowA_whole, push_n, set_n, push_obj, set_obj, set_push, set_push_ne, set_set, Nat.add_assoc, Nat.left_eq_add, Nat.add_eq_left, Nat.add_left_cancel_iff, Nat.reduceEqDiff, stO_1s, stO_ws, boxA_s, one_bool, one_int, one_str, one_ptr, one_nilptr, one_slice, one_eslice, one_nilslice, one_func, one_iface, one_niliface, List.all_cons, List.all_nil, List.length_cons, List.length_nil, Nat.reduceLT, Nat.reduceEqDiff, Nat.reduceLeDiff, Bool.and_true, Nat.one_ne_zero, Nat.succ_ne_zero, reduceIte, if_false, List.getElem?_cons_zero, List.set_cons_zero, List.set_cons_succ]
  refine loop_at (fun n e g => ∃ (x : IV) (lo hi : Nat) (out : List UInt8), n ≤ w ∧ e 2 = .int .i64 v ∧ e 0 = x ∧ e 7 = .int .i64 ((n : Int) - 1) ∧ Ext hB g ∧ hB.n ≤ lo ∧ hi ≤ g.n ∧ Own lo hi g 5 1 x (strRows out) ∧ out ++ beB n v = bs ++ beB w v) w ?_ ?_
  · refine ⟨x, lo, hi, bs, Nat.le_refl _, ?_⟩
    simp only [go_sem, Hold.p, HoldK.k, HoldL.K, HoldL.body, Nat.reduceBEq, Nat.reduceAdd, List.getElem?_cons_zero, List.getElem?_cons_succ, Option.bind_some, List.map_cons, List.map_nil, Nat.zero_add, if_true, List.getD_cons_zero, List.getD_cons_succ, List.contains_cons, List.contains_nil, Nat.reduceBEq, Bool.or_true, Bool.true_or, Bool.or_false, Bool.false_or, Bool.not_true, Bool.not_false, true_and, and_true, rowA_whole, push_n, set_n, push_obj, set_obj, set_push, set_push_ne, set_set, Nat.add_assoc, Nat.left_eq_add, Nat.add_eq_left, Nat.add_left_cancel_iff, Nat.reduceEqDiff, stO_1s, stO_ws, boxA_s, one_bool, one_int, one_str, one_ptr, one_nilptr, one_slice, one_eslice, one_nilslice, one_func, one_iface, one_niliface, List.all_cons, List.all_nil, List.length_cons, List.length_nil, Nat.reduceLT, Nat.reduceEqDiff, Nat.reduceLeDiff, Bool.and_true, Nat.one_ne_zero, Nat.succ_ne_zero, reduceIte, if_false, List.getElem?_cons_zero, List.set_cons_zero, List.set_cons_succ]
    exact ⟨E, hlo, hhi, o⟩
  · rintro n e g ⟨x, lo, hi, out, hn, i2, i0, i7, E, hlo, hhi, o, hout⟩
    have hle := E.le
    cases n with
    | zero =>
      have d0 : decide ((0 : Int) ≤ ((0 : Nat) : Int) - 1) = false := decide_eq_false (by omega)
      simp only [i0, i2, i7, d0, go_sem, Hold.p, HoldK.k, HoldL.K, HoldL.body, Nat.reduceBEq, Nat.reduceAdd, List.getElem?_cons_zero, List.getElem?_cons_succ, Option.bind_some, List.map_cons, List.map_nil, Nat.zero_add, if_true, List.getD_cons_zero, List.getD_cons_succ, List.contains_cons, List.contains_nil, Nat.reduceBEq, Bool.or_true, Bool.true_or, Bool.or_false, Bool.false_or, Bool.not_true, Bool.not_false, true_and, and_true, rowA_whole, push_n, set_n, push_obj, set_obj, set_push, set_push_ne, set_set, Nat.add_assoc, Nat.left_eq_add, Nat.add_eq_left, Nat.add_left_cancel_iff, Nat.reduceEqDiff, stO_1s, stO_ws, boxA_s, one_bool, one_int, one_str, one_ptr, one_nilptr, one_slice, one_eslice, one_nilslice, one_func, one_iface, one_niliface, List.all_cons, List.all_nil, List.length_cons, List.length_nil, Nat.reduceLT, Nat.reduceEqDiff, Nat.reduceLeDiff, Bool.and_true, Nat.one_ne_zero, Nat.succ_ne_zero, reduceIte, if_false, List.getElem?_cons_zero, List.set_cons_zero, List.set_cons_succ]
      have : out = bs ++ beB w v := by simpa [beB] using hout
      rw [← this]
      exact ⟨o.wide hlo hhi (Nat.le_refl _), E⟩
    | succ k =>
      have d0 : decide ((0 : Int) ≤ ((k + 1 : Nat) : Int) - 1) = true := decide_eq_true (by omega)
      have e1 : ((k + 1 : Nat) : Int) - 1 = (k : Int) := by omega
      have w1 : wr .i64 (8 * (k : Int)) = ((8 * k : Nat) : Int) := by rw [wr64 _ (by omega)]; omega
      have w2 : wr .u64 v = v := by unfold wr; rw [IntKind.wrap_u64]; omega
      have w3 := ib_shr .u64 v ((8 * k : Nat) : Int) .i64 (by omega)
      have hmin : min ((8 * k : Nat) : Int).toNat IntKind.u64.bits = 8 * k := by
        have : IntKind.u64.bits = 64 := rfl
        rw [this]; omega
      rw [hmin] at w3
      have hol : out.length ≤ 16777300 := by
        have := congrArg List.length hout
        rw [List.length_append, List.length_append, beB_len, beB_len] at this
        omega
      have w4 : wr .i64 ((k : Int) - 1) = (k : Int) - 1 := wr64 _ (by omega)
      have w5 : wr .u8 (v.fdiv (2 ^ (8 * k))) = ((byteAt v k).toNat : Int) := wr_u8 _
      rw [e1] at i7 d0
      simp only [i0, i2, i7, d0, w1, w2, w3, w5, go_sem, Hold.p, HoldK.k, HoldL.K, HoldL.body, Nat.reduceBEq, Nat.reduceAdd, List.getElem?_cons_zero, List.getElem?_cons_succ, Option.bind_some, List.map_cons, List.map_nil, Nat.zero_add, if_true, List.getD_cons_zero, List.getD_cons_succ, List.contains_cons, List.contains_nil, Nat.reduceBEq, Bool.or_true, Bool.true_or, Bool.or_false, Bool.false_or, Bool.not_true, Bool.not_false, true_and, and_true, rowA_whole, push_n, set_n, push_obj, set_obj, set_push, set_push_ne, set_set, Nat.add_assoc, Nat.left_eq_add, Nat.add_eq_left, Nat.add_left_cancel_iff, Nat.reduceEqDiff, stO_1s, stO_ws, boxA_s, one_bool, one_int, one_str, one_ptr, one_nilptr, one_slice, one_eslice, one_nilslice, one_func, one_iface, one_niliface, List.all_cons, List.all_nil, List.length_cons, List.length_nil, Nat.reduceLT, Nat.reduceEqDiff, Nat.reduceLeDiff, Bool.and_true, Nat.one_ne_zero, Nat.succ_ne_zero, reduceIte, if_false, List.getElem?_cons_zero, List.set_cons_zero, List.set_cons_succ]
      generalize hq_g1 : IH.push g (IObj.rows [[.int .u8 (byteAt v k).toNat]] 5 1 false) = g1
      have e_g1 : Ext g g1 := by rw [← hq_g1]; exact (Ext.refl _).push _
      have l_g1 : g1.n = g.n + 1 := by rw [← hq_g1]; rfl
      have ba : At g1 g.n (IObj.rows [[.int .u8 (byteAt v k).toNat]] 5 1 false) := by rw [← hq_g1]; exact At.new _ _
      clear hq_g1
      have o := o.ext e_g1
      have E := E.ext e_g1
      refine o.app (by simp) (by rw [strRows_len]; simp; omega) ?_
      intro v6 h6 o6 t6 n6 v6o v6c
      have E := E.turn o (by omega) t6
      have le_t6 := t6.le
      simp only [i0, i2, i7, w4, go_sem, Hold.p, HoldK.k, HoldL.K, HoldL.body, Nat.reduceBEq, Nat.reduceAdd, List.getElem?_cons_zero, List.getElem?_cons_succ, Option.bind_some, List.map_cons, List.map_nil, Nat.zero_add, if_true, List.getD_cons_zero, List.getD_cons_succ, List.contains_cons, List.contains_nil, Nat.reduceBEq, Bool.or_true, Bool.true_or, Bool.or_false, Bool.false_or, Bool.not_true, Bool.not_false, true_and, and_true, rowA_whole, push_n, set_n, push_obj, set_obj, set_push, set_push_ne, set_set, Nat.add_assoc, Nat.left_eq_add, Nat.add_eq_left, Nat.add_left_cancel_iff, Nat.reduceEqDiff, stO_1s, stO_ws, boxA_s, one_bool, one_int, one_str, one_ptr, one_nilptr, one_slice, one_eslice, one_nilslice, one_func, one_iface, one_niliface, List.all_cons, List.all_nil, List.length_cons, List.length_nil, Nat.reduceLT, Nat.reduceEqDiff, Nat.reduceLeDiff, Bool.and_true, Nat.one_ne_zero, Nat.succ_ne_zero, reduceIte, if_false, List.getElem?_cons_zero, List.set_cons_zero, List.set_cons_succ]
      refine ⟨k, Nat.lt_succ_self _, v6, g1.n, g1.n + 1, out ++ [byteAt v k], by omega, rfl, rfl, E, by omega, by omega, ?_, ?_⟩
      · rw [strRows_append]; exact o6
      · rw [← hout]; simp [beB]

set_option maxRecDepth 20000 in
theorem l01Copy_c (h : IH) (v : IV) (bs : List UInt8) (hs : SlR h 1 v (strRows bs)) (hbl : bs.length ≤ 16777216) : ICalls Tryd.prog 109 [v] h fun r h' => Own h.n h'.n h' 5 1 r (strRows bs) ∧ Ext h h' := by
  refine icalls (.of ok109) (Nat.le_of_ble_eq_true rfl) ?_
  unfold c109
  have hlen := hs.lenF
  rw [strRows_len] at hlen
  simp only [go_sem, Hold.p, HoldK.k, HoldL.K, HoldL.body, Nat.reduceBEq, Nat.reduceAdd, List.getElem?_cons_zero, List.getElem?_cons_succ, Option.bind_some, List.map_cons, List.map_nil, Nat.zero_add, if_true, List.getD_cons_zero, List.getD_cons_succ, List.contains_cons, List.contains_nil, Nat.reduceBEq, Bool.or_true, Bool.true_or, Bool.or_false, Bool.false_or, Bool.not_true, Bool.not_false, true_and, and_true, rowA_whole, push_n, set_n, push_obj, set_obj, set_push, set_push_ne, set_set, Nat.add_assoc, Nat.left_eq_add, Nat.add_eq_left, Nat.add_left_cancel_iff, Nat.reduceEqDiff, stO_1s, stO_ws, boxA_s, one_bool, one_int, one_str, one_ptr, one_nilptr, one_slice, one_eslice, one_nilslice, one_func, one_iface, one_niliface, List.all_cons, List.all_nil, List.length_cons, List.length_nil, Nat.reduceLT, Nat.reduceEqDiff, Nat.reduceLeDiff, Bool.and_true, Nat.one_ne_zero, Nat.succ_ne_zero, reduceIte, if_false, List.getElem?_cons_zero, List.set_cons_zero, List.set_cons_succ]
  refine loop_at (fun n e g => ∃ (x : IV) (lo hi k : Nat), n = bs.length - k ∧ k ≤ bs.length ∧ e 0 = v ∧ e 3 = x ∧ e 4 = .int .i64 (k : Nat) ∧ Ext h g ∧ h.n ≤ lo ∧ hi ≤ g.n ∧ Own lo hi g 5 1 x (strRows (bs.take k))) bs.length ?_ ?_
  · refine ⟨.eslice true, h.n, h.n, 0, by omega, by omega, ?_⟩
    simp only [go_sem, Hold.p, HoldK.k, HoldL.K, HoldL.body, Nat.reduceBEq, Nat.reduceAdd, List.getElem?_cons_zero, List.getElem?_cons_succ, Option.bind_some, List.map_cons, List.map_nil, Nat.zero_add, if_true, List.getD_cons_zero, List.getD_cons_succ, List.contains_cons, List.contains_nil, Nat.reduceBEq, Bool.or_true, Bool.true_or, Bool.or_false, Bool.false_or, Bool.not_true, Bool.not_false, true_and, and_true, rowA_whole, push_n, set_n, push_obj, set_obj, set_push, set_push_ne, set_set, Nat.add_assoc, Nat.left_eq_add, Nat.add_eq_left, Nat.add_left_cancel_iff, Nat.reduceEqDiff, stO_1s, stO_ws, boxA_s, one_bool, one_int, one_str, one_ptr, one_nilptr, one_slice, one_eslice, one_nilslice, one_func, one_iface, one_niliface, List.all_cons, List.all_nil, List.length_cons, List.length_nil, Nat.reduceLT, Nat.reduceEqDiff, Nat.reduceLeDiff, Bool.and_true, Nat.one_ne_zero, Nat.succ_ne_zero, reduceIte, if_false, List.getElem?_cons_zero, List.set_cons_zero, List.set_cons_succ]
    exact ⟨rfl, Ext.refl _, Nat.le_refl _, Nat.le_refl _, Own.empty⟩
  · rintro n e g ⟨x, lo, hi, k, rfl, hk, i0, i3, i4, E, hlo, hhi, o⟩
    have hle := E.le
    simp only [i0, i3, i4, hlen, go_sem, Hold.p, HoldK.k, HoldL.K, HoldL.body, Nat.reduceBEq, Nat.reduceAdd, List.getElem?_cons_zero, List.getElem?_cons_succ, Option.bind_some, List.map_cons, List.map_nil, Nat.zero_add, if_true, List.getD_cons_zero, List.getD_cons_succ, List.contains_cons, List.contains_nil, Nat.reduceBEq, Bool.or_true, Bool.true_or, Bool.or_false, Bool.false_or, Bool.not_true, Bool.not_false, true_and, and_true, rowA_whole, push_n, set_n, push_obj, set_obj, set_push, set_push_ne, set_set, Nat.add_assoc, Nat.left_eq_add, Nat.add_eq_left, Nat.add_left_cancel_iff, Nat.reduceEqDiff, stO_1s, stO_ws, boxA_s, one_bool, one_int, one_str, one_ptr, one_nilptr, one_slice, one_eslice, one_nilslice, one_func, one_iface, one_niliface, List.all_cons, List.all_nil, List.length_cons, List.length_nil, Nat.reduceLT, Nat.reduceEqDiff, Nat.reduceLeDiff, Bool.and_true, Nat.one_ne_zero, Nat.succ_ne_zero, reduceIte, if_false, List.getElem?_cons_zero, List.set_cons_zero, List.set_cons_succ]
    refine test_dec (fun hlt => ?_) (fun hlt => ?_)
    · have hlt' : k < bs.length := by omega
      have hkp : bs[k]? = some bs[k] := List.getElem?_eq_getElem hlt'
      generalize bs[k] = b at hkp
      obtain ⟨l, j, hia, hll, hrow⟩ := (hs.ext E).at (m := k) (strRows_at hkp) .i64
      have hc := cellO_row hrow
      simp only [i0, i3, i4, hia, hc, go_sem, Hold.p, HoldK.k, HoldL.K, HoldL.body, Nat.reduceBEq, Nat.reduceAdd, List.getElem?_cons_zero, List.getElem?_cons_succ, Option.bind_some, List.map_cons, List.map_nil, Nat.zero_add, if_true, List.getD_cons_zero, List.getD_cons_succ, List.contains_cons, List.contains_nil, Nat.reduceBEq, Bool.or_true, Bool.true_or, Bool.or_false, Bool.false_or, Bool.not_true, Bool.not_false, true_and, and_true, rowA_whole, push_n, set_n, push_obj, set_obj, set_push, set_push_ne, set_set, Nat.add_assoc, Nat.left_eq_add, Nat.add_eq_left, Nat.add_left_cancel_iff, Nat.reduceEqDiff, stO_1s, stO_ws, boxA_s, one_bool, one_int, one_str, one_ptr, one_nilptr, one_slice, one_eslice, one_nilslice, one_func, one_iface, one_niliface, List.all_cons, List.all_nil, List.length_cons, List.length_nil, Nat.reduceLT, Nat.reduceEqDiff, Nat.reduceLeDiff, Bool.and_true, Nat.one_ne_zero, Nat.succ_ne_zero, reduceIte, if_false, List.getElem?_cons_zero, List.set_cons_zero, List.set_cons_succ]
      generalize hq_g1 : IH.push g (IObj.rows [[.int .u8 b.toNat]] 5 1 false) = g1
      have e_g1 : Ext g g1 := by rw [← hq_g1]; exact (Ext.refl _).push _
      have l_g1 : g1.n = g.n + 1 := by rw [← hq_g1]; rfl
      have ba : At g1 g.n (IObj.rows [[.int .u8 b.toNat]] 5 1 false) := by rw [← hq_g1]; exact At.new _ _
      clear hq_g1
      have o := o.ext e_g1
      have E := E.ext e_g1
      refine o.app (by simp) (by rw [strRows_len]; simp; omega) ?_
      intro v6 h6 o6 t6 n6 v6o v6c
      have E := E.turn o (by omega) t6
      have le_t6 := t6.le
      simp only [i0, i3, i4, go_sem, Hold.p, HoldK.k, HoldL.K, HoldL.body, Nat.reduceBEq, Nat.reduceAdd, List.getElem?_cons_zero, List.getElem?_cons_succ, Option.bind_some, List.map_cons, List.map_nil, Nat.zero_add, if_true, List.getD_cons_zero, List.getD_cons_succ, List.contains_cons, List.contains_nil, Nat.reduceBEq, Bool.or_true, Bool.true_or, Bool.or_false, Bool.false_or, Bool.not_true, Bool.not_false, true_and, and_true, rowA_whole, push_n, set_n, push_obj, set_obj, set_push, set_push_ne, set_set, Nat.add_assoc, Nat.left_eq_add, Nat.add_eq_left, Nat.add_left_cancel_iff, Nat.reduceEqDiff, stO_1s, stO_ws, boxA_s, one_bool, one_int, one_str, one_ptr, one_nilptr, one_slice, one_eslice, one_nilslice, one_func, one_iface, one_niliface, List.all_cons, List.all_nil, List.length_cons, List.length_nil, Nat.reduceLT, Nat.reduceEqDiff, Nat.reduceLeDiff, Bool.and_true, Nat.one_ne_zero, Nat.succ_ne_zero, reduceIte, if_false, List.getElem?_cons_zero, List.set_cons_zero, List.set_cons_succ]
      refine ⟨_, ?_, v6, g1.n, g1.n + 1, k + 1, rfl, by omega, rfl, wr64_succ k (by omega), E, by omega, by omega, ?_⟩
      · omega
      · rw [List.take_add_one, hkp, strRows_append]; exact o6
    · obtain rfl : k = bs.length := by omega
      rw [List.take_length] at o
      simp only [i3, go_sem, Hold.p, HoldK.k, HoldL.K, HoldL.body, Nat.reduceBEq, Nat.reduceAdd, List.getElem?_cons_zero, List.getElem?_cons_succ, Option.bind_some, List.map_cons, List.map_nil, Nat.zero_add, if_true, List.getD_cons_zero, List.getD_cons_succ, List.contains_cons, List.contains_nil, Nat.reduceBEq, Bool.or_true, Bool.true_or, Bool.or_false, Bool.false_or, Bool.not_true, Bool.not_false, true_and, and_true, rowA_whole, push_n, set_n, push_obj, set_obj, set_push, set_push_ne, set_set, Nat.add_assoc, Nat.left_eq_add, Nat.add_eq_left, Nat.add_left_cancel_iff, Nat.reduceEqDiff, stO_1s, stO_ws, boxA_s, one_bool, one_int, one_str, one_ptr, one_nilptr, one_slice, one_eslice, one_nilslice, one_func, one_iface, one_niliface, List.all_cons, List.all_nil, List.length_cons, List.length_nil, Nat.reduceLT, Nat.reduceEqDiff, Nat.reduceLeDiff, Bool.and_true, Nat.one_ne_zero, Nat.succ_ne_zero, reduceIte, if_false, List.getElem?_cons_zero, List.set_cons_zero, List.set_cons_succ]
      exact ⟨o.wide hlo hhi (Nat.le_refl _), E⟩

set_option maxRecDepth 20000 in
theorem l01Join_c (h : IH) (v w : IV) (az bs : List UInt8) (hv : SlR h 1 v (strRows az)) (hw : SlR h 1 w (strRows bs)) (hal : az.length ≤ 8388608) (hbl : bs.length ≤ 8388608) : ICalls Tryd.prog 78 [v, w] h fun r h' => Own h.n h'.n h' 5 1 r (strRows (az ++ bs)) ∧ Ext h h' := by
  refine icalls (.of ok78) (Nat.le_of_ble_eq_true rfl) ?_
  unfold c78
  have hlen := hw.lenF
  rw [strRows_len] at hlen
  simp only [go_sem, Hold.p, HoldK.k, HoldL.K, HoldL.body, Nat.reduceBEq, Nat.reduceAdd, List.getElem?_cons_zero, List.getElem?_cons_succ, Option.bind_some, List.map_cons, List.map_nil, Nat.zero_add, if_true, List.getD_cons_zero, List.getD_cons_succ, List.contains_cons, List.contains_nil, Nat.reduceBEq, Bool.or_true, Bool.true_or, Bool.or_false, Bool.false_or, Bool.not_true, Bool.not_false, true_and, and_true, rowA_whole, push_n, set_n, push_obj, set_obj, set_push, set_push_ne, set_set, Nat.add_assoc, Nat.left_eq_add, Nat.add_eq_left, Nat.add_left_cancel_iff, Nat.reduceEqDiff, stO_1s, stO_ws, boxA_s, one_bool, one_int, one_str, one_ptr, one_nilptr, one_slice, one_eslice, one_nilslice, one_func, one_iface, one_niliface, List.all_cons, List.all_nil, List.length_cons, List.length_nil, Nat.reduceLT, Nat.reduceEqDiff, Nat.reduceLeDiff, Bool.and_true, Nat.one_ne_zero, Nat.succ_ne_zero, reduceIte, if_false, List.getElem?_cons_zero, List.set_cons_zero, List.set_cons_succ]
  refine callA_of (l01Copy_c h v az hv (by omega)) ?_
  rintro x0 h1 ⟨o0, E0⟩
  simp only [go_sem, Hold.p, HoldK.k, HoldL.K, HoldL.body, Nat.reduceBEq, Nat.reduceAdd, List.getElem?_cons_zero, List.getElem?_cons_succ, Option.bind_some, List.map_cons, List.map_nil, Nat.zero_add, if_true, List.getD_cons_zero, List.getD_cons_succ, List.contains_cons, List.contains_nil, Nat.reduceBEq, Bool.or_true, Bool.true_or, Bool.or_false, Bool.false_or, Bool.not_true, Bool.not_false, true_and, and_true, rowA_whole, push_n, set_n, push_obj, set_obj, set_push, set_push_ne, set_set, Nat.add_assoc, Nat.left_eq_add, Nat.add_eq_left, Nat.add_left_cancel_iff, Nat.reduceEqDiff, stO_1s, stO_ws, boxA_s, one_bool, one_int, one_str, one_ptr, one_nilptr, one_slice, one_eslice, one_nilslice, one_func, one_iface, one_niliface, List.all_cons, List.all_nil, List.length_cons, List.length_nil, Nat.reduceLT, Nat.reduceEqDiff, Nat.reduceLeDiff, Bool.and_true, Nat.one_ne_zero, Nat.succ_ne_zero, reduceIte, if_false, List.getElem?_cons_zero, List.set_cons_zero, List.set_cons_succ]
  have hle0 := E0.le
  refine loop_at (fun n e g => ∃ (x : IV) (lo hi k : Nat), n = bs.length - k ∧ k ≤ bs.length ∧ e 1 = w ∧ e 5 = x ∧ e 6 = .int .i64 (k : Nat) ∧ Ext h g ∧ h.n ≤ lo ∧ hi ≤ g.n ∧ Own lo hi g 5 1 x (strRows (az ++ bs.take k))) bs.length ?_ ?_
  · refine ⟨x0, h.n, h1.n, 0, by omega, by omega, ?_⟩
    simp only [go_sem, Hold.p, HoldK.k, HoldL.K, HoldL.body, Nat.reduceBEq, Nat.reduceAdd, List.getElem?_cons_zero, List.getElem?_cons_succ, Option.bind_some, List.map_cons, List.map_nil, Nat.zero_add, if_true, List.getD_cons_zero, List.getD_cons_succ, List.contains_cons, List.contains_nil, Nat.reduceBEq, Bool.or_true, Bool.true_or, Bool.or_false, Bool.false_or, Bool.not_true, Bool.not_false, true_and, and_true, rowA_whole, push_n, set_n, push_obj, set_obj, set_push, set_push_ne, set_set, Nat.add_assoc, Nat.left_eq_add, Nat.add_eq_left, Nat.add_left_cancel_iff, Nat.reduceEqDiff, stO_1s, stO_ws, boxA_s, one_bool, one_int, one_str, one_ptr, one_nilptr, one_slice, one_eslice, one_nilslice, one_func, one_iface, one_niliface, List.all_cons, List.all_nil, List.length_cons, List.length_nil, Nat.reduceLT, Nat.reduceEqDiff, Nat.reduceLeDiff, Bool.and_true, Nat.one_ne_zero, Nat.succ_ne_zero, reduceIte, if_false, List.getElem?_cons_zero, List.set_cons_zero, List.set_cons_succ]
    exact ⟨rfl, E0, Nat.le_refl _, Nat.le_refl _, by simpa using o0⟩
  · rintro n e g ⟨x, lo, hi, k, rfl, hk, i1, i5, i6, E, hlo, hhi, o⟩
    have hle := E.le
    simp only [i1, i5, i6, hlen, go_sem, Hold.p, HoldK.k, HoldL.K, HoldL.body, Nat.reduceBEq, Nat.reduceAdd, List.getElem?_cons_zero, List.getElem?_cons_succ, Option.bind_some, List.map_cons, List.map_nil, Nat.zero_add, if_true, List.getD_cons_zero, List.getD_cons_succ, List.contains_cons, List.contains_nil, Nat.reduceBEq, Bool.or_true, Bool.true_or, Bool.or_false, Bool.false_or, Bool.not_true, Bool.not_false, true_and, and_true, rowA_whole, push_n, set_n, push_obj, set_obj, set_push, set_push_ne, set_set, Nat.add_assoc, Nat.left_eq_add, Nat.add_eq_left, Nat.add_left_cancel_iff, Nat.reduceEqDiff, stO_1s, stO_ws, boxA_s, one_bool, one_int, one_str, one_ptr, one_nilptr, one_slice, one_eslice, one_nilslice, one_func, one_iface, one_niliface, List.all_cons, List.all_nil, List.length_cons, List.length_nil, Nat.reduceLT, Nat.reduceEqDiff, Nat.reduceLeDiff, Bool.and_true, Nat.one_ne_zero, Nat.succ_ne_zero, reduceIte, if_false, List.getElem?_cons_zero, List.set_cons_zero, List.set_cons_succ]
    refine test_dec (fun hlt => ?_) (fun hlt => ?_)
    · have hlt' : k < bs.length := by omega
      have hkp : bs[k]? = some bs[k] := List.getElem?_eq_getElem hlt'
      generalize bs[k] = b at hkp
      obtain ⟨l, j, hia, hll, hrow⟩ := (hw.ext E).at (m := k) (strRows_at hkp) .i64
      have hc := cellO_row hrow
      simp only [i1, i5, i6, hia, hc, go_sem, Hold.p, HoldK.k, HoldL.K, HoldL.body, Nat.reduceBEq, Nat.reduceAdd, List.getElem?_cons_zero, List.getElem?_cons_succ, Option.bind_some, List.map_cons, List.map_nil, Nat.zero_add, if_true, List.getD_cons_zero, List.getD_cons_succ, List.contains_cons, List.contains_nil, Nat.reduceBEq, Bool.or_true, Bool.true_or, Bool.or_false, Bool.false_or, Bool.not_true, Bool.not_false, true_and, and_true, rowA_whole, push_n, set_n, push_obj, set_obj, set_push, set_push_ne, set_set, Nat.add_assoc, Nat.left_eq_add, Nat.add_eq_left, Nat.add_left_cancel_iff, Nat.reduceEqDiff, stO_1s, stO_ws, boxA_s, one_bool, one_int, one_str, one_ptr, one_nilptr, one_slice, one_eslice, one_nilslice, one_func, one_iface, one_niliface, List.all_cons, List.all_nil, List.length_cons, List.length_nil, Nat.reduceLT, Nat.reduceEqDiff, Nat.reduceLeDiff, Bool.and_true, Nat.one_ne_zero, Nat.succ_ne_zero, reduceIte, if_false, List.getElem?_cons_zero, List.set_cons_zero, List.set_cons_succ]
      generalize hq_g1 : IH.push g (IObj.rows [[.int .u8 b.toNat]] 5 1 false) = g1
      have e_g1 : Ext g g1 := by rw [← hq_g1]; exact (Ext.refl _).push _
      have l_g1 : g1.n = g.n + 1 := by rw [← hq_g1]; rfl
      have ba : At g1 g.n (IObj.rows [[.int .u8 b.toNat]] 5 1 false) := by rw [← hq_g1]; exact At.new _ _
      clear hq_g1
      have o := o.ext e_g1
      have E := E.ext e_g1
      refine o.app (by simp) (by rw [strRows_len]; simp; omega) ?_
      intro v6 h6 o6 t6 n6 v6o v6c
      have E := E.turn o (by omega) t6
      have le_t6 := t6.le
      simp only [i1, i5, i6, go_sem, Hold.p, HoldK.k, HoldL.K, HoldL.body, Nat.reduceBEq, Nat.reduceAdd, List.getElem?_cons_zero, List.getElem?_cons_succ, Option.bind_some, List.map_cons, List.map_nil, Nat.zero_add, if_true, List.getD_cons_zero, List.getD_cons_succ, List.contains_cons, List.contains_nil, Nat.reduceBEq, Bool.or_true, Bool.true_or, Bool.or_false, Bool.false_or, Bool.not_true, Bool.not_false, true_and, and_true, rowA_whole, push_n, set_n, push_obj, set_obj, set_push, set_push_ne, set_set, Nat.add_assoc, Nat.left_eq_add, Nat.add_eq_left, Nat.add_left_cancel_iff, Nat.reduceEqDiff, stO_1s, stO_ws, boxA_s, one_bool, one_int, one_str, one_ptr, one_nilptr, one_slice, one_eslice, one_nilslice, one_func, one_iface, one_niliface, List.all_cons, List.all_nil, List.length_cons, List.length_nil, Nat.reduceLT, Nat.reduceEqDiff, Nat.reduceLeDiff, Bool.and_true, Nat.one_ne_zero, Nat.succ_ne_zero, reduceIte, if_false, List.getElem?_cons_zero, List.set_cons_zero, List.set_cons_succ]
      refine ⟨_, ?_, v6, g1.n, g1.n + 1, k + 1, rfl, by omega, rfl, wr64_succ k (by omega), E, by omega, by omega, ?_⟩
      · omega
      · rw [List.take_add_one, hkp, ← List.append_assoc, strRows_append]; exact o6
    · obtain rfl : k = bs.length := by omega
      rw [List.take_length] at o
      simp only [i5, go_sem, Hold.p, HoldK.k, HoldL.K, HoldL.body, Nat.reduceBEq, Nat.reduceAdd, List.getElem?_cons_zero, List.getElem?_cons_succ, Option.bind_some, List.map_cons, List.map_nil, Nat.zero_add, if_true, List.getD_cons_zero, List.getD_cons_succ, List.contains_cons, List.contains_nil, Nat.reduceBEq, Bool.or_true, Bool.true_or, Bool.or_false, Bool.false_or, Bool.not_true, Bool.not_false, true_and, and_true, rowA_whole, push_n, set_n, push_obj, set_obj, set_push, set_push_ne, set_set, Nat.add_assoc, Nat.left_eq_add, Nat.add_eq_left, Nat.add_left_cancel_iff, Nat.reduceEqDiff, stO_1s, stO_ws, boxA_s, one_bool, one_int, one_str, one_ptr, one_nilptr, one_slice, one_eslice, one_nilslice, one_func, one_iface, one_niliface, List.all_cons, List.all_nil, List.length_cons, List.length_nil, Nat.reduceLT, Nat.reduceEqDiff, Nat.reduceLeDiff, Bool.and_true, Nat.one_ne_zero, Nat.succ_ne_zero, reduceIte, if_false, List.getElem?_cons_zero, List.set_cons_zero, List.set_cons_succ]
      exact ⟨o.wide hlo hhi (Nat.le_refl _), E⟩

set_option maxRecDepth 20000 in
theorem l01In_c (h : IH) (n lo hi : Int) :
    ICalls Tryd.prog 128 [.int .i64 n, .int .i64 lo, .int .i64 hi] h fun r h' => r = .bool (decide (lo ≤ n) && decide (n ≤ hi)) ∧ h' = h := by
  refine icalls (.of ok128) (Nat.le_of_ble_eq_true rfl) ?_
  unfold c128
  simp only [go_sem, Hold.p, HoldK.k, HoldL.K, HoldL.body, Nat.reduceBEq, Nat.reduceAdd, List.getElem?_cons_zero, List.getElem?_cons_succ, Option.bind_some, List.map_cons, List.map_nil, Nat.zero_add, if_true, List.getD_cons_zero, List.getD_cons_succ, List.contains_cons, List.contains_nil, Nat.reduceBEq, Bool.or_true, Bool.true_or, Bool.or_false, Bool.false_or, Bool.not_true, Bool.not_false, true_and, and_true]
set_option maxRecDepth 20000 in
theorem l10PortOK_c (h : IH) (n : Int) :
    ICalls Tryd.prog 76 [.int .i64 n] h fun r h' => r = .bool (decide (0 ≤ n) && decide (n ≤ 65535)) ∧ h' = h := by
  refine icalls (.of ok76) (Nat.le_of_ble_eq_true rfl) ?_
  unfold c76
  simp only [go_sem, Hold.p, HoldK.k, HoldL.K, HoldL.body, Nat.reduceBEq, Nat.reduceAdd, List.getElem?_cons_zero, List.getElem?_cons_succ, Option.bind_some, List.map_cons, List.map_nil, Nat.zero_add, if_true, List.getD_cons_zero, List.getD_cons_succ, List.contains_cons, List.contains_nil, Nat.reduceBEq, Bool.or_true, Bool.true_or, Bool.or_false, Bool.false_or, Bool.not_true, Bool.not_false, true_and, and_true]
  refine callA_of (l01In_c h n 0 65535) ?_
  rintro r h' ⟨rfl, rfl⟩
  simp only [go_sem, Hold.p, HoldK.k, HoldL.K, HoldL.body, Nat.reduceBEq, Nat.reduceAdd, List.getElem?_cons_zero, List.getElem?_cons_succ, Option.bind_some, List.map_cons, List.map_nil, Nat.zero_add, if_true, List.getD_cons_zero, List.getD_cons_succ, List.contains_cons, List.contains_nil, Nat.reduceBEq, Bool.or_true, Bool.true_or, Bool.or_false, Bool.false_or, Bool.not_true, Bool.not_false, true_and, and_true]
end Go.Proofs.YtdpaehdolhdjdaaDoor
